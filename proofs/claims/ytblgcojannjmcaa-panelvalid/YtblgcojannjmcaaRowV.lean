/- Whatever is pressed, filled, asked and lit, the panel stays valid, and its display can be shown. Conditions: none. -/
import Derived.Test.YtblgcojannjmcaaRows
import Derived.Test.YtblgcojannjmcaaC50
import Derived.Test.YtblgcojannjmcaaE5
namespace Go.Proofs.Ytblgcojannjmcaa
open Go.ChangeShapes Go.WideShapes Go.ChangeAt Go.RowKit Go.E

theorem Try.own : ownKnob Try.prog.godebug = none := by kernel_rfl
theorem Try.laidOut : laidOutB Try.prog = true := by kernel_rfl

set_option maxRecDepth 100000 in
theorem panelValid_lifted (os : Os) (started : os.Started) (H : Type) (enc : TypeId × Value → H) :
    ReturnsInHanded {} Try.checked os 7 .any (Rows.panelValidSpec.pre6 enc Try.prog Try.f7 Rows.panelValidRow.domain false) (Rows.panelValidSpec.post enc Try.prog Try.f7 false true false false) := by
  refine returns_sized (C := Try.checked) Try.own started (by kernel_rfl) Try.func7
    (ChangeSpec.witness6 (enc := enc) (C := Try.checked) false ⟨#[], #[.slice none 0 0, .slice none 0 0, .slice none 0 0], []⟩ 8 (by kernel_rfl) (by kernel_rfl) (by kernel_rfl) (by kernel_rfl)) ?_
  intro W base args ds gs before hval0 hW hsz0
  have hval : ∀ (j : Nat) t v, Try.f7.params[j]? = some t → args[j]? = some v → Value.okWide Try.prog W .any base t v := hval0
  have hW' := hW
  obtain ⟨p, q, hA0, hV, rfl, _, _⟩ := hW
  have hA : DataW.TrodAll enc Try.prog W 0 (fun _ => true) true Try.f7.params.toList args.toList ds p := hA0
  rw [Try.params7] at hA hval
  obtain ⟨v0, v1, v2, d0, d1, d2, p0, p1, p2, rfl, rfl, rfl, h0, h1, h2⟩ := trodAll_three hA
  obtain ⟨rfl, rfl⟩ := trodVars_none hV
  have hsz : (DataW.weightsEach Try.prog [22, 23, 88] [d0, d1, d2]).all (· ≤ reachBytes) = true := hsz0
  obtain ⟨n0, u0, m0, D0, r0, b0, w0, e0⟩ := arg_nested [.u8, .i64, .i64, .i64] Try.underlying22 Try.underlying61 ⟨rfl, by kernel_rfl, Try.underlying3⟩ ⟨rfl, by kernel_rfl, Try.underlying59⟩ (by kernel_rfl) (fun h => flat_struct Try.underlying56 (by intro i k hi; rcases i with _ | _ | _ | _ | i; all_goals first | (cases hi; exact ⟨_, rfl, rfl, by kernel_rfl, Try.underlying54⟩) | (cases hi; exact ⟨_, rfl, rfl, by kernel_rfl, Try.underlying3⟩) | (simp at hi; done)) h) (by kernel_rfl) (by decide) (hval 0 22 v0 rfl rfl) h0
  have g0 : ∀ i, i < n0 → m0 i * 32 ≤ 140737488355328 := nested_bound Try.underlying22 Try.underlying61 Try.underlying59 e0 (fun x hx => of_decide_eq_true (List.all_eq_true.1 hsz x (by rw [DataW.weightsEach]; exact List.mem_append_left _ hx)))
  obtain ⟨l1, r1, b1, w1⟩ := arg_ints Try.underlying23 Try.underlying49 (by kernel_rfl) (hval 1 23 v1 rfl rfl) h1
  obtain ⟨l2, r2, b2, w2⟩ := arg_ints Try.underlying88 Try.underlying34 (by kernel_rfl) (hval 2 88 v2 rfl rfl) h2
  clear hA0 hval0
  simp only [List.append_nil] at hW'
  have hlt : ∀ x ∈ p0 ++ (p1 ++ p2), x.block < W.heap.size := fun x hx => by simpa using hW'.lt x (by simpa using hx)
  refine (below_of_P (valid_law n0 u0 m0 D0 b0 w0 g0 l1 b1 (fun x hx => wf_u8 (w1 x hx)) l2 b2 (fun x hx => wf_u16 (w2 x hx))) (start_gok rfl W) (us := #[v0, v1, v2]) ((CRel.one r0).append ((CRel.one r1).append (CRel.one r2))) (fun _ h => h)).mono fun e W' ⟨he, hb⟩ => ?_
  subst he
  refine ⟨_, rfl, _, _, _, [], p0 ++ (p1 ++ p2), [], hW', ?_, ?_, ?_, hb.frame _, fun h => by cases h⟩
  · exact trodAll_mk1 (shut_bool Try.underlying4 true)
  · exact trodAll_mk3 (Below.trod Try.laidOut (by kernel_rfl) (of_decide_eq_true (by kernel_rfl)) h0 hb fun x hx => hlt x (by simp [hx])) (Below.trod Try.laidOut (by kernel_rfl) (of_decide_eq_true (by kernel_rfl)) h1 hb fun x hx => hlt x (by simp [hx])) (Below.trod Try.laidOut (by kernel_rfl) (of_decide_eq_true (by kernel_rfl)) h2 hb fun x hx => hlt x (by simp [hx]))
  · rfl

theorem panelValid_holds : Rows.PanelValidSaid :=
  OpenClaim.holds_of_wide 7 Try.f7 rfl rfl rfl rfl rfl rfl rfl ⟨rfl, rfl, rfl, rfl, rfl⟩ rfl rfl rfl rfl rfl (by kernel_rfl) Try.func7 (by kernel_rfl)
    (of_decide_eq_true (by kernel_rfl)) (by unfold Func.isWrapper; first | (rw [if_pos (by decide +kernel)]; kernel_rfl) | (rw [if_neg (by decide +kernel)]; exact ⟨rfl, rfl⟩))
    (fun os started H enc _ => panelValid_lifted os started H enc)
end Go.Proofs.Ytblgcojannjmcaa
