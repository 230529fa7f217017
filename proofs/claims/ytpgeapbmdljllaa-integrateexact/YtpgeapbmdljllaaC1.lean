/- The program's types, as the engine reads them (printed by wip/tenv.py). -/
import Derived.Test.YtpgeapbmdljllaaProg
import Derived.Test.YtpgeapbmdljllaaE2
import Derived.Test.YtpgeapbmdljllaaE4
import Derived.Laws.Bits64
import Derived.Laws.BitsLemmas
set_option linter.unusedVariables false
set_option linter.unusedSimpArgs false
/-! Te. -/
namespace Go.Proofs
open Go.E
noncomputable def Tenv : TEnv := [
  ⟨1, 0, .other, some [.any], true⟩,
  ⟨1, 8, .func, some [.nilfn], true⟩,
  ⟨1, 8, .int .i64, some [.int .i64 0], true⟩,
  ⟨1, 8, .int .i64, some [.int .i64 0], true⟩,
  ⟨1, 1, .bool, some [.bool false], true⟩,
  ⟨1, 1, .int .u8, some [.int .u8 0], true⟩,
  ⟨1, 1, .int .u8, some [.int .u8 0], true⟩,
  ⟨4, 24, .struct [(0, 2), (1, 3), (2, 4), (3, 6)], some [.int .i64 0, .int .i64 0, .bool false, .int .u8 0], true⟩,
  ⟨4, 24, .struct [(0, 2), (1, 3), (2, 4), (3, 6)], some [.int .i64 0, .int .i64 0, .bool false, .int .u8 0], true⟩,
  ⟨1, 16, .str, some [.str ⟨#[]⟩], true⟩,
  ⟨1, 16, .str, some [.str ⟨#[]⟩], true⟩,
  ⟨1, 16, .str, some [.str ⟨#[]⟩], true⟩,
  ⟨1, 8, .int .u64, some [.int .u64 0], true⟩,
  ⟨2, 24, .struct [(0, 9), (1, 12)], some [.str ⟨#[]⟩, .int .u64 0], false⟩,
  ⟨2, 24, .struct [(0, 9), (1, 12)], some [.str ⟨#[]⟩, .int .u64 0], false⟩,
  ⟨1, 8, .ptr, some [.nilptr], true⟩,
  ⟨1, 8, .ptr, some [.nilptr], true⟩,
  ⟨1, 8, .ptr, some [.nilptr], true⟩,
  ⟨1, 8, .struct [(0, 17)], some [.nilptr], false⟩,
  ⟨1, 8, .struct [(0, 17)], some [.nilptr], false⟩,
  ⟨1, 16, .other, some [.any], true⟩,
  ⟨1, 4, .int .i32, some [.int .i32 0], true⟩,
  ⟨1, 2, .int .u16, some [.int .u16 0], true⟩,
  ⟨1, 2, .int .u16, some [.int .u16 0], true⟩,
  ⟨2, 4, .arr 2 23, some [.int .u16 0, .int .u16 0], true⟩,
  ⟨2, 4, .arr 2 23, some [.int .u16 0, .int .u16 0], true⟩,
  ⟨6, 12, .arr 3 25, some [.int .u16 0, .int .u16 0, .int .u16 0, .int .u16 0, .int .u16 0, .int .u16 0], true⟩,
  ⟨6, 12, .arr 3 25, some [.int .u16 0, .int .u16 0, .int .u16 0, .int .u16 0, .int .u16 0, .int .u16 0], true⟩,
  ⟨9, 24, .struct [(0, 27), (6, 25), (8, 3)], some [.int .u16 0, .int .u16 0, .int .u16 0, .int .u16 0, .int .u16 0, .int .u16 0, .int .u16 0, .int .u16 0, .int .i64 0], true⟩,
  ⟨9, 24, .struct [(0, 27), (6, 25), (8, 3)], some [.int .u16 0, .int .u16 0, .int .u16 0, .int .u16 0, .int .u16 0, .int .u16 0, .int .u16 0, .int .u16 0, .int .i64 0], true⟩,
  ⟨12, 24, .struct [(0, 27), (6, 27)], some [.int .u16 0, .int .u16 0, .int .u16 0, .int .u16 0, .int .u16 0, .int .u16 0, .int .u16 0, .int .u16 0, .int .u16 0, .int .u16 0, .int .u16 0, .int .u16 0], true⟩,
  ⟨12, 24, .struct [(0, 27), (6, 27)], some [.int .u16 0, .int .u16 0, .int .u16 0, .int .u16 0, .int .u16 0, .int .u16 0, .int .u16 0, .int .u16 0, .int .u16 0, .int .u16 0, .int .u16 0, .int .u16 0], true⟩,
  ⟨1, 8, .func, some [.nilfn], true⟩,
  ⟨1, 0, .other, some [.any], true⟩,
  ⟨1, 8, .func, some [.nilfn], true⟩,
  ⟨1, 8, .int .i64, some [.int .i64 0], true⟩,
  ⟨1, 0, .other, some [.any], true⟩,
  ⟨1, 8, .func, some [.nilfn], true⟩,
  ⟨1, 8, .func, some [.nilfn], true⟩,
  ⟨1, 0, .other, some [.any], true⟩,
  ⟨1, 8, .func, some [.nilfn], true⟩,
  ⟨1, 8, .func, some [.nilfn], true⟩,
  ⟨1, 0, .other, some [.any], true⟩,
  ⟨1, 8, .func, some [.nilfn], true⟩,
  ⟨1, 0, .other, some [.any], true⟩,
  ⟨1, 8, .func, some [.nilfn], true⟩,
  ⟨1, 8, .func, some [.nilfn], true⟩,
  ⟨1, 24, .slice 27, some [.nilslice], true⟩,
  ⟨1, 8, .func, some [.nilfn], true⟩,
  ⟨1, 8, .func, some [.nilfn], true⟩,
  ⟨1, 8, .func, some [.nilfn], true⟩,
  ⟨1, 24, .slice 5, some [.nilslice], true⟩,
  ⟨1, 24, .slice 5, some [.nilslice], true⟩,
  ⟨3, 40, .struct [(0, 4), (1, 52), (2, 3)], some [.bool false, .nilslice, .int .i64 0], true⟩,
  ⟨3, 40, .struct [(0, 4), (1, 52), (2, 3)], some [.bool false, .nilslice, .int .i64 0], true⟩,
  ⟨1, 0, .other, some [.any], true⟩,
  ⟨1, 8, .func, some [.nilfn], true⟩,
  ⟨1, 8, .func, some [.nilfn], true⟩,
  ⟨1, 8, .func, some [.nilfn], true⟩,
  ⟨3, 24, .arr 3 2, some [.int .i64 0, .int .i64 0, .int .i64 0], true⟩,
  ⟨1, 8, .func, some [.nilfn], true⟩,
  ⟨1, 8, .func, some [.nilfn], true⟩,
  ⟨1, 8, .func, some [.nilfn], true⟩,
  ⟨1, 8, .func, some [.nilfn], true⟩,
  ⟨1, 8, .func, some [.nilfn], true⟩,
  ⟨1, 8, .func, some [.nilfn], true⟩,
  ⟨1, 8, .func, some [.nilfn], true⟩,
  ⟨1, 24, .slice 138, some [.nilslice], true⟩,
  ⟨1, 24, .slice 138, some [.nilslice], true⟩,
  ⟨3, 40, .struct [(0, 4), (1, 68), (2, 3)], some [.bool false, .nilslice, .int .i64 0], true⟩,
  ⟨3, 40, .struct [(0, 4), (1, 68), (2, 3)], some [.bool false, .nilslice, .int .i64 0], true⟩,
  ⟨9, 120, .arr 3 70, some [.bool false, .nilslice, .int .i64 0, .bool false, .nilslice, .int .i64 0, .bool false, .nilslice, .int .i64 0], true⟩,
  ⟨1, 0, .other, some [.any], true⟩,
  ⟨1, 8, .func, some [.nilfn], true⟩,
  ⟨1, 8, .func, some [.nilfn], true⟩,
  ⟨1, 8, .func, some [.nilfn], true⟩,
  ⟨1, 8, .func, some [.nilfn], true⟩,
  ⟨1, 8, .func, some [.nilfn], true⟩,
  ⟨1, 8, .func, some [.nilfn], true⟩,
  ⟨1, 8, .func, some [.nilfn], true⟩,
  ⟨1, 8, .func, some [.nilfn], true⟩,
  ⟨1, 8, .func, some [.nilfn], true⟩,
  ⟨1, 8, .func, some [.nilfn], true⟩,
  ⟨1, 8, .func, some [.nilfn], true⟩,
  ⟨1, 8, .func, some [.nilfn], true⟩,
  ⟨1, 8, .func, some [.nilfn], true⟩,
  ⟨1, 8, .func, some [.nilfn], true⟩,
  ⟨1, 8, .func, some [.nilfn], true⟩,
  ⟨1, 8, .func, some [.nilfn], true⟩,
  ⟨1, 8, .func, some [.nilfn], true⟩,
  ⟨1, 8, .func, some [.nilfn], true⟩,
  ⟨1, 0, .other, some [.any], true⟩,
  ⟨1, 8, .func, some [.nilfn], true⟩,
  ⟨1, 8, .func, some [.nilfn], true⟩,
  ⟨1, 8, .func, some [.nilfn], true⟩,
  ⟨1, 8, .func, some [.nilfn], true⟩,
  ⟨1, 8, .func, some [.nilfn], true⟩,
  ⟨1, 0, .other, some [.any], true⟩,
  ⟨1, 8, .func, some [.nilfn], true⟩,
  ⟨1, 8, .func, some [.nilfn], true⟩,
  ⟨1, 8, .func, some [.nilfn], true⟩,
  ⟨1, 24, .slice 70, some [.nilslice], true⟩,
  ⟨1, 8, .func, some [.nilfn], true⟩,
  ⟨1, 8, .func, some [.nilfn], true⟩,
  ⟨1, 8, .func, some [.nilfn], true⟩,
  ⟨1, 8, .func, some [.nilfn], true⟩,
  ⟨1, 8, .func, some [.nilfn], true⟩,
  ⟨1, 8, .func, some [.nilfn], true⟩,
  ⟨1, 8, .func, some [.nilfn], true⟩,
  ⟨1, 0, .other, some [.any], true⟩,
  ⟨1, 8, .func, some [.nilfn], true⟩,
  ⟨1, 8, .func, some [.nilfn], true⟩,
  ⟨1, 8, .func, some [.nilfn], true⟩,
  ⟨1, 8, .func, some [.nilfn], true⟩,
  ⟨1, 8, .func, some [.nilfn], true⟩,
  ⟨1, 8, .func, some [.nilfn], true⟩,
  ⟨1, 8, .func, some [.nilfn], true⟩,
  ⟨1, 8, .func, some [.nilfn], true⟩,
  ⟨1, 8, .int .u64, some [.int .u64 0], true⟩,
  ⟨1, 8, .func, some [.nilfn], true⟩,
  ⟨1, 8, .func, some [.nilfn], true⟩,
  ⟨1, 8, .func, some [.nilfn], true⟩,
  ⟨1, 8, .func, some [.nilfn], true⟩,
  ⟨1, 8, .func, some [.nilfn], true⟩,
  ⟨1, 8, .func, some [.nilfn], true⟩,
  ⟨2, 32, .struct [(0, 68), (1, 3)], some [.nilslice, .int .i64 0], true⟩,
  ⟨2, 32, .struct [(0, 68), (1, 3)], some [.nilslice, .int .i64 0], true⟩,
  ⟨3, 40, .struct [(0, 4), (1, 126)], some [.bool false, .nilslice, .int .i64 0], true⟩,
  ⟨3, 40, .struct [(0, 4), (1, 126)], some [.bool false, .nilslice, .int .i64 0], true⟩,
  ⟨1, 0, .other, some [.any], true⟩,
  ⟨1, 8, .func, some [.nilfn], true⟩,
  ⟨1, 0, .other, some [.any], true⟩,
  ⟨1, 8, .func, some [.nilfn], true⟩,
  ⟨1, 8, .func, some [.nilfn], true⟩,
  ⟨1, 8, .func, some [.nilfn], true⟩,
  ⟨1, 8, .func, some [.nilfn], true⟩,
  ⟨1, 8, .func, some [.nilfn], true⟩,
  ⟨1, 8, .int .u64, some [.int .u64 0], true⟩,
  ⟨1, 4, .int .u32, some [.int .u32 0], true⟩,
  ⟨1, 8, .func, some [.nilfn], true⟩,
  ⟨1, 8, .func, some [.nilfn], true⟩,
  ⟨1, 8, .func, some [.nilfn], true⟩,
  ⟨1, 8, .func, some [.nilfn], true⟩,
  ⟨1, 8, .func, some [.nilfn], true⟩,
  ⟨1, 8, .func, some [.nilfn], true⟩,
  ⟨1, 0, .other, some [.any], true⟩,
  ⟨1, 8, .func, some [.nilfn], true⟩,
  ⟨1, 0, .other, some [.any], true⟩,
  ⟨1, 8, .func, some [.nilfn], true⟩,
  ⟨1, 8, .func, some [.nilfn], true⟩,
  ⟨1, 8, .func, some [.nilfn], true⟩,
  ⟨1, 8, .func, some [.nilfn], true⟩,
  ⟨1, 8, .func, some [.nilfn], true⟩,
  ⟨1, 8, .func, some [.nilfn], true⟩,
  ⟨1, 8, .func, some [.nilfn], true⟩,
  ⟨1, 8, .func, some [.nilfn], true⟩,
  ⟨1, 8, .func, some [.nilfn], true⟩,
  ⟨1, 8, .func, some [.nilfn], true⟩,
  ⟨1, 8, .func, some [.nilfn], true⟩,
  ⟨1, 8, .func, some [.nilfn], true⟩,
  ⟨4, 40, .struct [(0, 17), (1, 17), (2, 17), (3, 9)], some [.nilptr, .nilptr, .nilptr, .str ⟨#[]⟩], false⟩,
  ⟨4, 40, .struct [(0, 17), (1, 17), (2, 17), (3, 9)], some [.nilptr, .nilptr, .nilptr, .str ⟨#[]⟩], false⟩,
  ⟨0, 0, .arr 0 16, some [], true⟩,
  ⟨0, 0, .struct [(0, 162)], some [], false⟩,
  ⟨0, 0, .struct [(0, 162)], some [], false⟩,
  ⟨1, 8, .func, some [.nilfn], true⟩,
  ⟨1, 1, .int .u8, some [.int .u8 0], true⟩,
  ⟨1, 1, .int .u8, some [.int .u8 0], true⟩,
  ⟨1, 8, .func, some [.nilfn], true⟩,
  ⟨1, 8, .ptr, some [.nilptr], true⟩,
  ⟨1, 4, .int .i32, some [.int .i32 0], true⟩,
  ⟨1, 4, .int .i32, some [.int .i32 0], true⟩,
  ⟨11, 48, .struct [(0, 12), (1, 12), (2, 138), (3, 166), (4, 5), (5, 5), (6, 167), (7, 168), (8, 169), (9, 170), (10, 171)], some [.int .u64 0, .int .u64 0, .int .u32 0, .int .u8 0, .int .u8 0, .int .u8 0, .int .u8 0, .nilfn, .nilptr, .int .i32 0, .int .i32 0], false⟩,
  ⟨11, 48, .struct [(0, 12), (1, 12), (2, 138), (3, 166), (4, 5), (5, 5), (6, 167), (7, 168), (8, 169), (9, 170), (10, 171)], some [.int .u64 0, .int .u64 0, .int .u32 0, .int .u8 0, .int .u8 0, .int .u8 0, .int .u8 0, .nilfn, .nilptr, .int .i32 0, .int .i32 0], false⟩,
  ⟨1, 8, .other, some [.nilptr], true⟩]

set_option maxRecDepth 100000 in
theorem tok : TOK Try.prog Tenv := tok_with rfl (by decide +kernel) (by decide +kernel)
end Go.Proofs
/-! Na. -/
namespace Go.Proofs.N13
open Go.E
set_option maxRecDepth 8000
theorem env : Env Try.prog Tenv := ⟨tok, by decide +kernel⟩

theorem wi {x : Int} (h0 : -9223372036854775808 ≤ x) (h1 : x ≤ 9223372036854775807) : IntKind.i64.wrap x = x := by
  rw [IntKind.wrap_i64]; omega
theorem wu32 {x : Int} (h0 : 0 ≤ x) (h1 : x < 4294967296) : IntKind.u32.wrap x = x := by
  rw [IntKind.wrap_u32]; omega
theorem wu64 {x : Int} (h0 : 0 ≤ x) (h1 : x < 18446744073709551616) : IntKind.u64.wrap x = x := by
  rw [IntKind.wrap_u64]; omega

/-- Lists that fit. -/
def Short {α : Type} (l : List α) : Prop := l.length < 68719476736

/-- A list without the zeros at its end. -/
def trimL : List Int → List Int
  | [] => []
  | x :: r => match trimL r with
    | [] => if x = 0 then [] else [x]
    | t => x :: t
theorem trimL_snoc (l : List Int) (x : Int) : trimL (l ++ [x]) = if x = 0 then trimL l else l ++ [x] := by
  induction l with
  | nil => simp [trimL]
  | cons y r ih =>
    simp only [List.cons_append, trimL, ih]
    by_cases hx : x = 0
    · simp only [hx, if_true]
    · simp only [hx, if_false]
      cases h : r ++ [x] with
      | nil => simp at h
      | cons a b => rfl
theorem trimL_take {l : List Int} {n : Nat} (hn : n < l.length) : trimL (l.take (n + 1)) = if l.getD n 0 = 0 then trimL (l.take n) else l.take (n + 1) := by
  have : l.take (n + 1) = l.take n ++ [l.getD n 0] := by
    rw [List.take_add_one, List.getD_eq_getElem?_getD, List.getElem?_eq_getElem hn]
    simp
  rw [this, trimL_snoc]

theorem trim_c {l : List Int} (hl : Short l) : callP Try.prog 117 [ints .u32 l] (· = ints .u32 (trimL l)) := by
  unfold Short at hl
  refine callE_def env (fn := Try.f117) rfl (by decide) rfl ?_
  refine loop_inv [true, false, false, true, false, false, false, false, false, false, false, false, false, false, false, false, false, false, false, false, false]
    (fun n : Nat => [ints .u32 l, .any, .any, .int .i64 n, .any, .any, .any, .any, .any, .any, .any, .any, .any, .any, .any, .any, .any, .any, .any, .any, .any]) (fun _ => [])
    (fun n => n ≤ l.length ∧ trimL (l.take n) = trimL l) (fun n => n) l.length ⟨Nat.le_refl _, by simp⟩ rfl rfl ?_
  rintro n ⟨hn, ht⟩
  -- the end
  have stop : ∀ m : Nat, m ≤ l.length → trimL (l.take m) = trimL l → (m = 0 ∨ l.getD (m - 1) 0 ≠ 0) → retE (ints .u32 (trimL l)) (.ro 1 m (fun i => irow .u32 l (0 + i))) [] := by
    intro m hm ht h
    have : trimL l = l.take m := by
      rw [← ht]
      rcases h with rfl | h
      · simp [trimL]
      · cases m with
        | zero => simp [trimL]
        | succ m => rw [trimL_take (by omega), if_neg (by simpa using h)]
    show Eqv _ _
    rw [this]
    refine .up (.up (eqv_ints (by simp; omega) fun i hi => ?_))
    simp [irow, hi]
  apply branch_intro <;> intro h
  · repeat refine branch_true ?_
    obtain ⟨m, rfl⟩ : ∃ k, n = k + 1 := ⟨n - 1, by simp at h; omega⟩
    have e : IntKind.i64.wrap (((m + 1 : Nat) : Int) - 1) = m := by rw [wi (by omega) (by omega)]; omega
    rw [e]
    apply need_intro
    · omega
    · repeat refine branch_true ?_
      apply branch_intro <;> intro h2
      · refine ⟨m, ⟨by omega, ?_⟩, by omega, ?_, rfl⟩
        · rw [← ht, trimL_take (by omega), if_pos (by simpa using h2)]
        · rw [← e]; rfl
      · apply need_intro
        · omega
        · exact stop (m + 1) hn ht (.inr (by simpa using h2))
  · repeat refine branch_false ?_
    apply need_intro
    · omega
    · exact stop n hn ht (.inl (by simp at h; omega))
end Go.Proofs.N13
/-! Nb. -/
namespace Go.Proofs.N13
open Go.E
set_option maxRecDepth 8000

/-- The function that reads limbs. -/
abbrev limbF (l : List Int) : AVal := .fn (.func 133) [] [.roptr 1 1 (fun _ => [ints .u32 l]) 0 0]
theorem limbs_c (l : List Int) : callP Try.prog 131 [ints .u32 l] (· = limbF l) := by
  refine callE_def env (fn := Try.f131) rfl (by decide) rfl ?_
  show Eqv _ _
  exact .up (.up (.refl _))

theorem limb_c {l : List Int} {i : Int} (hi : 0 ≤ i) (hl : ∀ x ∈ l, 0 ≤ x ∧ x < 4294967296) : callP Try.prog 133 [.int .i64 i, .roptr 1 1 (fun _ => [ints .u32 l]) 0 0] (· = .int .u64 (l.getD i.toNat 0)) := by
  refine callE_def env (fn := Try.f133) rfl (by decide) rfl ?_
  apply branch_intro <;> intro h
  · apply need_intro
    · simp at h; omega
    · show Eqv _ _
      have hlt : i.toNat < l.length := by simp at h; omega
      have hx := hl l[i.toNat] (List.getElem_mem _)
      have e : IntKind.u64.wrap (l.getD i.toNat 0) = l.getD i.toNat 0 := by
        rw [List.getD_eq_getElem?_getD, List.getElem?_eq_getElem hlt]
        exact wu64 (by simpa using hx.1) (by simp; omega)
      rw [e]
      exact .up (.up (.refl _))
  · show Eqv _ _
    have : l.getD i.toNat 0 = 0 := by
      rw [List.getD_eq_getElem?_getD, List.getElem?_eq_none (by simp at h; omega)]
      rfl
    rw [this]
    exact .up (.up (.refl _))

/-! Numbers. -/
def Limbs (l : List Int) : Prop := ∀ x ∈ l, 0 ≤ x ∧ x < 4294967296
def val : List Int → Nat
  | [] => 0
  | x :: r => x.toNat + 4294967296 * val r
def limbsOf (n : Nat) : List Int := if h : n = 0 then [] else ((n % 4294967296 : Nat) : Int) :: limbsOf (n / 4294967296)
termination_by n
decreasing_by exact Nat.div_lt_self (by omega) (by omega)
theorem limbsOf_zero : limbsOf 0 = [] := by rw [limbsOf]; rfl
theorem limbsOf_pos {n : Nat} (h : n ≠ 0) : limbsOf n = ((n % 4294967296 : Nat) : Int) :: limbsOf (n / 4294967296) := by rw [limbsOf, dif_neg h]
theorem val_limbsOf (n : Nat) : val (limbsOf n) = n := by
  induction n using Nat.strongRecOn with
  | _ n ih =>
    by_cases h : n = 0
    · subst h; rw [limbsOf_zero]; rfl
    · rw [limbsOf_pos h, val, ih _ (Nat.div_lt_self (by omega) (by omega))]
      omega
theorem trim_val {l : List Int} (hl : Limbs l) : trimL l = limbsOf (val l) := by
  induction l with
  | nil => rw [val, limbsOf_zero]; rfl
  | cons x r ih =>
    have hx := hl x List.mem_cons_self
    have ih := ih fun y hy => hl y (List.mem_cons_of_mem _ hy)
    simp only [trimL, val]
    by_cases hv : val r = 0
    · rw [hv, limbsOf_zero] at ih
      rw [ih, hv]
      by_cases h0 : x = 0
      · subst h0; simp [limbsOf_zero]
      · rw [limbsOf_pos (by omega)]
        have e1 : (x.toNat + 4294967296 * 0) % 4294967296 = x.toNat := by omega
        have e2 : (x.toNat + 4294967296 * 0) / 4294967296 = 0 := by omega
        simp only [h0, if_false, e1, e2, limbsOf_zero]
        congr 1
        omega
    · have e1 : (x.toNat + 4294967296 * val r) % 4294967296 = x.toNat := by omega
      have e2 : (x.toNat + 4294967296 * val r) / 4294967296 = val r := by omega
      rw [ih, limbsOf_pos (n := x.toNat + 4294967296 * val r) (by omega), e1, e2]
      cases h : limbsOf (val r) with
      | nil =>
        have := val_limbsOf (val r)
        rw [h, val] at this
        omega
      | cons a b =>
        simp only
        congr 1
        omega
theorem limbs_limbsOf (n : Nat) : Limbs (limbsOf n) := by
  induction n using Nat.strongRecOn with
  | _ n ih =>
    by_cases h : n = 0
    · subst h; rw [limbsOf_zero]; intro x hx; cases hx
    · rw [limbsOf_pos h]
      intro x hx
      rcases List.mem_cons.1 hx with rfl | hx
      · omega
      · exact ih _ (Nat.div_lt_self (by omega) (by omega)) x hx

/-- The length in binary digits. -/
def bitLen (n : Nat) : Nat := if h : n = 0 then 0 else bitLen (n / 2) + 1
termination_by n
decreasing_by exact Nat.div_lt_self (by omega) (by omega)
theorem bitLen_zero : bitLen 0 = 0 := by rw [bitLen]; rfl
theorem bitLen_pos {n : Nat} (h : n ≠ 0) : bitLen n = bitLen (n / 2) + 1 := by rw [bitLen, dif_neg h]
theorem bitLen_le {n k : Nat} : bitLen n ≤ k ↔ n < 2 ^ k := by
  induction k generalizing n with
  | zero =>
    by_cases h : n = 0
    · subst h; simp [bitLen_zero]
    · rw [bitLen_pos h]; simp; omega
  | succ k ih =>
    by_cases h : n = 0
    · subst h; simp [bitLen_zero]; exact Nat.two_pow_pos _
    · rw [bitLen_pos h, Nat.add_le_add_iff_right, ih, Nat.pow_succ]
      omega
theorem bitLen_mul {n k : Nat} (h : n ≠ 0) : bitLen (2 ^ k * n) = k + bitLen n := by
  induction k with
  | zero => simp
  | succ k ih =>
    have h0 : 2 ^ (k + 1) * n ≠ 0 := Nat.mul_ne_zero (Nat.pos_iff_ne_zero.1 (Nat.two_pow_pos _)) h
    rw [bitLen_pos h0, Nat.pow_succ, show 2 ^ k * 2 * n / 2 = 2 ^ k * n by rw [Nat.mul_comm (2 ^ k) 2, Nat.mul_assoc, Nat.mul_div_cancel_left _ (by omega)], ih]
    omega
end Go.Proofs.N13
/-! Nc. -/
namespace Go.Proofs.N13
open Go.E
set_option maxRecDepth 8000

theorem val_snoc (l : List Int) (x : Int) : val (l ++ [x]) = val l + 2 ^ (32 * l.length) * x.toNat := by
  induction l with
  | nil => simp [val]
  | cons y r ih =>
    simp only [List.cons_append, val, ih, List.length_cons, Nat.mul_add 32, Nat.mul_one, Nat.pow_add]
    have h32 : (2 : Nat) ^ 32 = 4294967296 := by decide
    rw [h32]
    generalize 2 ^ (32 * r.length) = p
    have : 4294967296 * (p * x.toNat) = p * 4294967296 * x.toNat := by rw [← Nat.mul_assoc, Nat.mul_comm 4294967296 p]
    omega
theorem val_lt {l : List Int} (h : Limbs l) : val l < 2 ^ (32 * l.length) := by
  induction l with
  | nil => simp [val]
  | cons y r ih =>
    have hy := h y List.mem_cons_self
    have ih := ih fun z hz => h z (List.mem_cons_of_mem _ hz)
    simp only [val, List.length_cons, Nat.mul_add 32, Nat.mul_one, Nat.pow_add]
    have : (2 : Nat) ^ 32 = 4294967296 := by decide
    rw [this, Nat.mul_comm _ 4294967296]
    omega
theorem bitLen_add {m lo t : Nat} (h : lo < 2 ^ m) (ht : t ≠ 0) : bitLen (lo + 2 ^ m * t) = m + bitLen t := by
  induction m generalizing lo with
  | zero =>
    have : lo = 0 := by simpa using h
    subst this
    simp
  | succ m ih =>
    have hp : 2 ^ (m + 1) * t ≠ 0 := Nat.mul_ne_zero (Nat.pos_iff_ne_zero.1 (Nat.two_pow_pos _)) ht
    have e : (lo + 2 ^ (m + 1) * t) / 2 = lo / 2 + 2 ^ m * t := by
      have : 2 ^ (m + 1) * t = 2 * (2 ^ m * t) := by rw [Nat.pow_succ, Nat.mul_comm (2 ^ m) 2, Nat.mul_assoc]
      omega
    rw [bitLen_pos (by omega), e, ih (by rw [Nat.pow_succ] at h; omega)]
    omega

theorem limbsOf_last {v : Nat} {c : List Int} {x : Int} (h : limbsOf v = c ++ [x]) : 0 < x ∧ x < 4294967296 ∧ Limbs c ∧ v = val c + 2 ^ (32 * c.length) * x.toNat := by
  have hl := limbs_limbsOf v
  have hx := hl x (by rw [h]; simp)
  have hv : v = val c + 2 ^ (32 * c.length) * x.toNat := by rw [← val_snoc, ← h, val_limbsOf]
  refine ⟨?_, hx.2, fun y hy => hl y (by rw [h]; simp [hy]), hv⟩
  apply Classical.byContradiction
  intro h0
  have h0 : x = 0 := by omega
  have ht : trimL (limbsOf v) = limbsOf v := by rw [trim_val hl, val_limbsOf]
  rw [h, trimL_snoc, if_pos h0] at ht
  have hle : ∀ l : List Int, (trimL l).length ≤ l.length := fun l => by
    induction l with
    | nil => simp [trimL]
    | cons y r ih =>
      simp only [trimL]
      split
      · split <;> simp
      · rename_i t hne
        simp only [List.length_cons]
        omega
  have := hle c
  rw [ht] at this
  simp at this
  omega
theorem bitLen_limbs {v : Nat} {c : List Int} {x : Int} (h : limbsOf v = c ++ [x]) : bitLen v = 32 * c.length + bitLen x.toNat := by
  obtain ⟨h0, _, hc, hv⟩ := limbsOf_last h
  rw [hv, bitLen_add (val_lt hc) (by omega)]

theorem trimL_le (l : List Int) : (trimL l).length ≤ l.length := by
  induction l with
  | nil => simp [trimL]
  | cons y r ih =>
    simp only [trimL]
    split
    · split <;> simp
    · rename_i t hne
      simp only [List.length_cons]
      omega
theorem trim_short {l : List Int} (h : Short l) : Short (trimL l) := Nat.lt_of_le_of_lt (trimL_le l) h

theorem bits_c {l : List Int} (hs : Short l) (hl : Limbs l) : callP Try.prog 118 [ints .u32 l] (· = .int .i64 (bitLen (val l))) := by
  have hts := trim_short hs
  unfold Short at hs hts
  refine callE_def env (fn := Try.f118) rfl (by decide) rfl ?_
  refine callT_E (trim_c hs) rfl ?_
  rw [trim_val hl] at hts ⊢
  apply branch_intro <;> intro h
  · show Eqv _ _
    have h0 : limbsOf (val l) = [] := List.eq_nil_of_length_eq_zero (by simpa using h)
    have : val l = 0 := by rw [← val_limbsOf (val l), h0]; rfl
    rw [this, bitLen_zero]
    exact .up (.up (.refl _))
  · rcases List.eq_nil_or_concat (limbsOf (val l)) with h0 | ⟨c, x, hc⟩
    · rw [h0] at h; simp at h
    rw [List.concat_eq_append] at hc
    obtain ⟨hx0, hx1, _, _⟩ := limbsOf_last hc
    have hb := bitLen_limbs hc
    rw [hc] at hts ⊢
    have hlen : (c ++ [x]).length = c.length + 1 := by simp
    rw [hlen] at hts
    have e1 : IntKind.i64.wrap (((c ++ [x]).length : Int) - 1) = c.length := by rw [hlen, wi (by omega) (by omega)]; omega
    have e2 : (c ++ [x]).getD ((c.length : Int)).toNat 0 = x := by simp
    have e3 : IntKind.i64.wrap (32 * (c.length : Int)) = 32 * c.length := by rw [wi (by omega) (by omega)]
    apply need_intro
    · rw [e1, hlen]; omega
    · refine loop_inv [false, false, false, true, true, false, false, false, false, false, false, false, false, false, false, false, false, false, false, false, false, false, false, false, false, false, false]
        (fun s : Nat × Nat => [.any, .any, .any, .int .i64 s.1, .int .u32 s.2, .any, .any, .any, .any, .any, .any, .any, .any, .any, .any, .any, .any, .any, .any, .any, .any, .any, .any, .any, .any, .any, .any]) (fun _ => [])
        (fun s => s.1 + bitLen s.2 = bitLen (val l) ∧ s.2 < 4294967296) (fun s => s.2) (32 * c.length, x.toNat) ⟨hb.symm, by omega⟩ ?_ rfl ?_
      · rw [e1, e2, e3]
        have : ((x.toNat : Nat) : Int) = x := by omega
        show [_, _, _, _, _, _, _, _, _, _, _, _, _, _, _, _, _, _, _, _, _, _, _, _, _, _, _] = [_, _, _, _, _, _, _, _, _, _, _, _, _, _, _, _, _, _, _, _, _, _, _, _, _, _, _]
        simp only [this]
        rfl
      · rintro ⟨n, t⟩ ⟨hn, ht⟩
        simp only at hn ht
        apply branch_intro <;> intro h1
        · have ht0 : t ≠ 0 := by simp at h1; omega
          have hbt := bitLen_pos ht0
          have hnb : bitLen (val l) < 100000000000000 := by
            have hlt : bitLen (val l) ≤ 32 * l.length := bitLen_le.2 (val_lt hl)
            omega
          apply need_intro
          · omega
          · refine ⟨(n + 1, t / 2), ⟨by simp only; omega, by simp only; omega⟩, by simp only; omega, ?_, rfl⟩
            have f1 : IntKind.i64.wrap ((n : Int) + 1) = ((n + 1 : Nat) : Int) := by rw [wi (by omega) (by omega)]; omega
            have f2 : (t : Int).fdiv (2 ^ (min (1 : Int).toNat IntKind.u32.bits)) = ((t / 2 : Nat) : Int) := by
              have : min (1 : Int).toNat IntKind.u32.bits = 1 := by decide
              rw [this, Int.fdiv_eq_ediv_of_nonneg _ (by decide)]
              omega
            show [_, _, _, _, _, _, _, _, _, _, _, _, _, _, _, _, _, _, _, _, _, _, _, _, _, _, _] = [_, _, _, _, _, _, _, _, _, _, _, _, _, _, _, _, _, _, _, _, _, _, _, _, _, _, _]
            rw [← f1, ← f2]
        · show Eqv _ _
          have ht0 : t = 0 := by simp at h1; omega
          subst ht0
          rw [bitLen_zero] at hn
          rw [← hn]
          exact .up (.up (.refl _))

/-- A number within the limit, and no error; or none, and ErrLimit. -/
def limited (v : Nat) : AVal := if 32768 < bitLen v then .tuple [.ro 1 0 (irow .u32 []), .int .i64 4] else .tuple [ints .u32 (limbsOf v), .int .i64 0]
theorem limited_closed (v : Nat) : (limited v).closed2 = true := by unfold limited; split <;> rfl

theorem limbsOf_len (v : Nat) (m : Nat) (h : v < 2 ^ (32 * m)) : (limbsOf v).length ≤ m := by
  induction m generalizing v with
  | zero =>
    have : v = 0 := by simpa using h
    subst this
    simp [limbsOf_zero]
  | succ m ih =>
    by_cases hv : v = 0
    · subst hv; simp [limbsOf_zero]
    · rw [limbsOf_pos hv, List.length_cons]
      have h32 : (2 : Nat) ^ 32 = 4294967296 := by decide
      have := ih (v / 4294967296) (by
        rw [Nat.mul_add, Nat.mul_one, Nat.pow_add, h32] at h
        exact Nat.div_lt_of_lt_mul (by rw [Nat.mul_comm]; exact h))
      omega

theorem limit_c {l : List Int} (hs : Short l) (hl : Limbs l) : callP Try.prog 119 [ints .u32 l] (· = limited (val l)) := by
  have hts := trim_short hs
  refine callE_def env (fn := Try.f119) rfl (by decide) (limited_closed _) ?_
  refine callT_E (trim_c hs) rfl ?_
  rw [trim_val hl] at hts ⊢
  refine callT_E (bits_c hts (limbs_limbsOf _)) rfl ?_
  rw [val_limbsOf]
  apply branch_intro <;> intro h
  · show Eqv _ (limited _)
    unfold limited
    rw [if_pos (by simp at h; omega)]
    exact .tuple (.cons (.up (.nil _ _)) (.cons (.up (.refl _)) .nil))
  · show Eqv _ (limited _)
    unfold limited
    rw [if_neg (by simp at h; omega)]
    exact .up (.up (.refl _))

theorem norm_c {l : List Int} (hs : Short l) (hl : Limbs l) : callP Try.prog 120 [ints .u32 l] (· = ints .u32 (limbsOf (val l))) := by
  refine callE_def env (fn := Try.f120) rfl (by decide) rfl ?_
  refine callT_E (trim_c hs) rfl ?_
  rw [trim_val hl]
  apply need_intro
  · have := trim_short hs
    rw [trim_val hl] at this
    unfold Short at this
    unfold roomFor
    show _ * 4 ≤ _
    omega
  · apply need_intro
    · intro i hi
      exact ⟨_, rfl⟩
    · apply choice_l
      show Eqv _ _
      exact .up (.up (.refl _))

theorem of_c (n : Nat) (hn : n < 18446744073709551616) : callP Try.prog 95 [.int .u64 n] (· = ints .u32 (limbsOf n)) := by
  refine callE_def env (fn := Try.f95) rfl (by decide) rfl ?_
  apply need_intro
  · decide
  · apply choice_l
    have e1 : IntKind.u32.wrap (n : Int) = ((n % 4294967296 : Nat) : Int) := by rw [IntKind.wrap_u32]; omega
    have e2 : IntKind.u32.wrap ((n : Int).fdiv (2 ^ (min (32 : Int).toNat IntKind.u64.bits))) = ((n / 4294967296 : Nat) : Int) := by
      have : min (32 : Int).toNat IntKind.u64.bits = 32 := by decide
      rw [this, Int.fdiv_eq_ediv_of_nonneg _ (by decide), IntKind.wrap_u32]
      omega
    have hl : Limbs [((n % 4294967296 : Nat) : Int), ((n / 4294967296 : Nat) : Int)] := by
      intro x hx
      simp at hx
      omega
    have hv : val [((n % 4294967296 : Nat) : Int), ((n / 4294967296 : Nat) : Int)] = n := by simp [val]; omega
    have hc := trim_c (l := [((n % 4294967296 : Nat) : Int), ((n / 4294967296 : Nat) : Int)]) (by unfold Short; simp)
    rw [trim_val hl, hv] at hc
    have : callP Try.prog 117 [AVal.ro 1 2 (irow .u32 [IntKind.u32.wrap (n : Int), IntKind.u32.wrap ((n : Int).fdiv (2 ^ (min (32 : Int).toNat IntKind.u64.bits)))])] (· = ints .u32 (limbsOf n)) := by
      rw [e1, e2]; exact hc
    refine callT_E this rfl ?_
    show Eqv _ _
    exact .up (.up (.refl _))
end Go.Proofs.N13
/-! Nd. -/
namespace Go.Proofs.N13
open Go.E
set_option maxRecDepth 8000

theorem val_take_succ (l : List Int) (i : Nat) : val (l.take (i + 1)) = val (l.take i) + 2 ^ (32 * i) * (l.getD i 0).toNat := by
  by_cases h : i < l.length
  · have : l.take (i + 1) = l.take i ++ [l.getD i 0] := by
      rw [List.take_add_one, List.getD_eq_getElem?_getD, List.getElem?_eq_getElem h]
      simp
    rw [this, val_snoc]
    simp [Nat.min_eq_left (Nat.le_of_lt h)]
  · have h1 : l.take (i + 1) = l := List.take_of_length_le (by omega)
    have h2 : l.take i = l := List.take_of_length_le (by omega)
    have h3 : l.getD i 0 = 0 := by rw [List.getD_eq_getElem?_getD, List.getElem?_eq_none (by omega)]; rfl
    rw [h1, h2, h3]
    simp
theorem limb_bound {l : List Int} (h : Limbs l) (i : Nat) : 0 ≤ l.getD i 0 ∧ l.getD i 0 < 4294967296 := by
  rw [List.getD_eq_getElem?_getD]
  cases hi : l[i]? with
  | none => simp
  | some x => exact h x (List.mem_of_getElem? hi)

def Small {α : Type} (l : List α) : Prop := l.length < 1073741824
theorem Small.short {α : Type} {l : List α} (h : Small l) : Short l := by unfold Small at h; unfold Short; omega

structure AddSt where
  i : Nat
  c : Nat
  out : List Int

theorem add_c {a b : List Int} (ha : Small a) (hb : Small b) (la : Limbs a) (lb : Limbs b) : callP Try.prog 126 [ints .u32 a, ints .u32 b] (· = limited (val a + val b)) := by
  refine callE_def env (fn := Try.f126) rfl (by decide) (limited_closed _) ?_
  unfold Small at ha hb
  refine callT_E (limbs_c a) rfl ?_
  refine callT_E (limbs_c b) rfl ?_
  obtain ⟨n, hn⟩ : ∃ n : Nat, n = max a.length b.length := ⟨_, rfl⟩
  have hmax : (if (b.length : Int) > (a.length : Int) then (b.length : Int) else (a.length : Int)) = (n : Int) := by
    split <;> omega
  have hn1 : a.length ≤ n ∧ b.length ≤ n ∧ n < 1073741824 := by omega
  apply need_intro
  · simp only [hmax]
    rw [wi (by omega) (by omega)]
    omega
  apply choice_r
  refine loop_inv (keep 53 [6, 7, 8, 9, 10, 11])
    (fun s : AddSt => slots 53 [(6, limbF a), (7, limbF b), (8, .int .i64 n), (9, .slice ⟨0, 0, 0⟩ s.i), (10, .int .u64 s.c), (11, .int .i64 s.i)])
    (fun s => [.ints .u32 s.out]) (fun s => s.i ≤ n ∧ s.out.length = s.i ∧ Limbs s.out ∧ s.c ≤ 1 ∧ val s.out + 2 ^ (32 * s.i) * s.c = val (a.take s.i) + val (b.take s.i)) (fun s => n - s.i)
    ⟨0, 0, []⟩ ⟨by simp, rfl, (fun x hx => by cases hx), by simp, by simp [val]⟩ ?_ rfl ?_
  · show [_, _, _, _, _, _, _, _, _, _, _, _, _, _, _, _, _, _, _, _, _, _, _, _, _, _, _, _, _, _, _, _, _, _, _, _, _, _, _, _, _, _, _, _, _, _, _, _, _, _, _, _, _] = _
    rw [hmax]
    rfl
  rintro ⟨i, c, out⟩ ⟨hi, hlen, hlo, hc, hv⟩
  simp only at hi hlen hlo hc hv
  apply branch_intro <;> intro h
  · have hin : i < n := by simp at h; omega
    refine callT_E (limb_c (by simp) la) rfl ?_
    refine callT_E (limb_c (by simp) lb) rfl ?_
    have xa := limb_bound la i
    have xb := limb_bound lb i
    have et : ((i : Int)).toNat = i := by simp
    obtain ⟨x, hx⟩ : ∃ x : Nat, a.getD i 0 = x := ⟨(a.getD i 0).toNat, by omega⟩
    obtain ⟨y, hy⟩ : ∃ y : Nat, b.getD i 0 = y := ⟨(b.getD i 0).toNat, by omega⟩
    apply choice_l
    apply need_intro
    · show (i + 1) * 4 ≤ _
      omega
    apply need_intro
    · exact ⟨by rw [hlen]; simp, fun j hj => by
        have : j = 0 := by omega
        subst this
        exact ⟨_, rfl⟩⟩
    -- the limb and the carry
    have e1 : IntKind.u64.wrap ((x : Int) + y) = ((x + y : Nat) : Int) := by rw [wu64 (by omega) (by omega)]; omega
    have e2 : IntKind.u64.wrap ((c : Int) + ((x + y : Nat) : Int)) = ((c + x + y : Nat) : Int) := by rw [wu64 (by omega) (by omega)]; omega
    have e3 : IntKind.u32.wrap ((c + x + y : Nat) : Int) = (((c + x + y) % 4294967296 : Nat) : Int) := by rw [IntKind.wrap_u32]; omega
    have e4 : ((c + x + y : Nat) : Int).fdiv (2 ^ (min (32 : Int).toNat IntKind.u64.bits)) = (((c + x + y) / 4294967296 : Nat) : Int) := by
      have : min (32 : Int).toNat IntKind.u64.bits = 32 := by decide
      rw [this, Int.fdiv_eq_ediv_of_nonneg _ (by decide)]
      omega
    have e5 : IntKind.i64.wrap ((i : Int) + 1) = ((i + 1 : Nat) : Int) := by rw [wi (by omega) (by omega)]; omega
    apply need_intro
    · decide
    refine ⟨⟨i + 1, (c + x + y) / 4294967296, out ++ [(((c + x + y) % 4294967296 : Nat) : Int)]⟩, ⟨by simp only; omega, by simp [hlen], ?_, by simp only; omega, ?_⟩, by simp only; omega, ?_, ?_⟩
    · intro z hz
      rcases List.mem_append.1 hz with hz | hz
      · exact hlo z hz
      · simp at hz
        omega
    · simp only [val_snoc, val_take_succ, hlen, hx, hy, Int.toNat_natCast]
      have hp : 2 ^ (32 * (i + 1)) = 2 ^ (32 * i) * 4294967296 := by
        rw [Nat.mul_add, Nat.mul_one, Nat.pow_add]
      rw [hp]
      generalize 2 ^ (32 * i) = p at hv ⊢
      have hd := Nat.div_add_mod (c + x + y) 4294967296
      generalize (c + x + y) / 4294967296 = q at hd ⊢
      generalize (c + x + y) % 4294967296 = r at hd ⊢
      have : p * 4294967296 * q + p * r = p * c + p * x + p * y := by
        rw [Nat.mul_assoc, ← Nat.mul_add, hd, Nat.mul_add, Nat.mul_add]
      omega
    · show [_, _, _, _, _, _, _, _, _, _, _, _, _, _, _, _, _, _, _, _, _, _, _, _, _, _, _, _, _, _, _, _, _, _, _, _, _, _, _, _, _, _, _, _, _, _, _, _, _, _, _, _, _] = _
      simp only [et, hx, hy, e1, e2, e4, e5]
      rfl
    · simp only [et, hx, hy, e1, e2, e3, List.drop_zero]
      rfl
  · have hin : i = n := by simp at h; omega
    subst hin
    have ta : a.take i = a := List.take_of_length_le hn1.1
    have tb : b.take i = b := List.take_of_length_le hn1.2.1
    rw [ta, tb] at hv
    apply choice_l
    apply need_intro
    · show (i + 1) * 4 ≤ _
      omega
    apply need_intro
    · exact ⟨by rw [hlen]; simp, fun j hj => by
        have : j = 0 := by omega
        subst this
        exact ⟨_, rfl⟩⟩
    have e3 : IntKind.u32.wrap (c : Int) = (c : Int) := wu32 (by omega) (by omega)
    have e6 : List.drop 0 out ++ rowsInts .u32 1 (irow .u32 [IntKind.u32.wrap (c : Int)]) = out ++ [(c : Int)] := by
      rw [e3, List.drop_zero]; rfl
    refine callT_last 0 rfl (Nat.le_refl _) ?_ ?_
    · show i + 1 = _
      rw [e6]
      simp [hlen]
    · have e7 : val (out ++ [(c : Int)]) = val a + val b := by
        rw [val_snoc, hlen, Int.toNat_natCast, hv]
      have hlc := limit_c (l := out ++ [(c : Int)]) (by unfold Short; simp [hlen]; omega) (by
        intro z hz
        rcases List.mem_append.1 hz with hz | hz
        · exact hlo z hz
        · simp at hz
          omega)
      rw [e7] at hlc
      refine callT_E (by rw [← e6] at hlc; exact hlc) rfl ?_
      unfold limited
      split
      · show Eqv _ _
        exact .up (.up (.refl _))
      · show Eqv _ _
        exact .up (.up (.refl _))
end Go.Proofs.N13
/-! Ne. -/
namespace Go.Proofs.N13
open Go.E
set_option maxRecDepth 8000

def cmpN (x y : Nat) : Int := if x < y then -1 else if y < x then 1 else 0

/-- The limbs from i on. -/
theorem val_drop (l : List Int) (i : Nat) (h : Limbs l) : val l = val (l.take i) + 2 ^ (32 * i) * val (l.drop i) := by
  induction l generalizing i with
  | nil => simp [val]
  | cons x r ih =>
    cases i with
    | zero => simp [val]
    | succ i =>
      have := ih i (fun y hy => h y (List.mem_cons_of_mem _ hy))
      simp only [List.take_succ_cons, List.drop_succ_cons, val, Nat.mul_add 32, Nat.mul_one, Nat.pow_add]
      have h32 : (2 : Nat) ^ 32 = 4294967296 := by decide
      rw [h32]
      generalize 2 ^ (32 * i) = p at this ⊢
      have e : p * 4294967296 * val (r.drop i) = 4294967296 * (p * val (r.drop i)) := by rw [Nat.mul_comm p, Nat.mul_assoc]
      omega
theorem val_drop_succ (l : List Int) (i : Nat) : val (l.drop i) = (l.getD i 0).toNat + 4294967296 * val (l.drop (i + 1)) := by
  by_cases h : i < l.length
  · rw [List.drop_eq_getElem_cons h, val, List.getD_eq_getElem?_getD, List.getElem?_eq_getElem h]
    rfl
  · rw [List.drop_of_length_le (by omega), List.drop_of_length_le (by omega), List.getD_eq_getElem?_getD, List.getElem?_eq_none (by omega)]
    simp [val]
theorem take_lt {l : List Int} (h : Limbs l) (i : Nat) : val (l.take i) < 2 ^ (32 * i) := by
  refine Nat.lt_of_lt_of_le (val_lt (fun x hx => h x (List.mem_of_mem_take hx))) (Nat.pow_le_pow_right (by omega) ?_)
  have := List.length_take_le i l
  omega

theorem cmp_c {a b : List Int} (ha : Small a) (hb : Small b) (la : Limbs a) (lb : Limbs b) : callP Try.prog 127 [ints .u32 a, ints .u32 b] (· = .int .i64 (cmpN (val a) (val b))) := by
  refine callE_def env (fn := Try.f127) rfl (by decide) rfl ?_
  unfold Small at ha hb
  refine callT_E (limbs_c a) rfl ?_
  refine callT_E (limbs_c b) rfl ?_
  obtain ⟨n, hn⟩ : ∃ n : Nat, n = max a.length b.length := ⟨_, rfl⟩
  have hmax : (if (b.length : Int) > (a.length : Int) then (b.length : Int) else (a.length : Int)) = (n : Int) := by
    split <;> omega
  have hn1 : a.length ≤ n ∧ b.length ≤ n ∧ n < 1073741824 := by omega
  refine loop_inv (keep 36 [5, 6, 7])
    (fun i : Nat => slots 36 [(5, limbF a), (6, limbF b), (7, .int .i64 ((i : Int) - 1))])
    (fun _ => []) (fun i => i ≤ n ∧ val (a.drop i) = val (b.drop i)) (fun i => i)
    n ⟨Nat.le_refl _, by rw [List.drop_of_length_le hn1.1, List.drop_of_length_le hn1.2.1]⟩ ?_ rfl ?_
  · show [_, _, _, _, _, _, _, _, _, _, _, _, _, _, _, _, _, _, _, _, _, _, _, _, _, _, _, _, _, _, _, _, _, _, _, _] = _
    simp only [hmax]
    rw [wi (by omega) (by omega)]
    rfl
  rintro i ⟨hi, he⟩
  apply branch_intro <;> intro h
  · obtain ⟨j, rfl⟩ : ∃ j, i = j + 1 := ⟨i - 1, by simp at h; omega⟩
    have ej : ((j + 1 : Nat) : Int) - 1 = j := by omega
    have xa := limb_bound la j
    have xb := limb_bound lb j
    have da := val_drop_succ a j
    have db := val_drop_succ b j
    have ta := val_drop a j la
    have tb := val_drop b j lb
    have la' := take_lt la j
    have lb' := take_lt lb j
    obtain ⟨x, hx⟩ : ∃ x : Nat, a.getD j 0 = x := ⟨(a.getD j 0).toNat, by omega⟩
    obtain ⟨y, hy⟩ : ∃ y : Nat, b.getD j 0 = y := ⟨(b.getD j 0).toNat, by omega⟩
    have ga : callP Try.prog 133 [.int .i64 (((j + 1 : Nat) : Int) - 1), .roptr 1 1 (fun _ => [ints .u32 a]) 0 0] (· = .int .u64 x) := by
      rw [ej]
      have := limb_c (l := a) (i := (j : Int)) (by omega) la
      rw [Int.toNat_natCast, hx] at this
      exact this
    have gb : callP Try.prog 133 [.int .i64 (((j + 1 : Nat) : Int) - 1), .roptr 1 1 (fun _ => [ints .u32 b]) 0 0] (· = .int .u64 y) := by
      rw [ej]
      have := limb_c (l := b) (i := (j : Int)) (by omega) lb
      rw [Int.toNat_natCast, hy] at this
      exact this
    rw [hx, Int.toNat_natCast] at da
    rw [hy, Int.toNat_natCast] at db
    refine callT_E ga rfl (callT_E gb rfl ?_)
    generalize hp : 2 ^ (32 * j) = p at ta tb la' lb'
    apply branch_intro <;> intro h1
    · show Eqv _ _
      have hlt : x < y := by simp at h1; omega
      have : val a < val b := by
        rw [ta, tb, da, db, he]
        have : p * (x + 4294967296 * val (b.drop (j + 1))) + p ≤ p * (y + 4294967296 * val (b.drop (j + 1))) := by
          rw [← Nat.mul_succ]
          exact Nat.mul_le_mul_left _ (by omega)
        omega
      rw [cmpN, if_pos this]
      exact .up (.up (.refl _))
    · refine callT_E ga rfl (callT_E gb rfl ?_)
      apply branch_intro <;> intro h2
      · show Eqv _ _
        have hlt : y < x := by simp at h2; omega
        have : val b < val a := by
          rw [ta, tb, da, db, he]
          have : p * (y + 4294967296 * val (b.drop (j + 1))) + p ≤ p * (x + 4294967296 * val (b.drop (j + 1))) := by
            rw [← Nat.mul_succ]
            exact Nat.mul_le_mul_left _ (by omega)
          omega
        rw [cmpN, if_neg (by omega), if_pos this]
        exact .up (.up (.refl _))
      · refine ⟨j, ⟨by omega, ?_⟩, by omega, ?_, rfl⟩
        · have : x = y := by simp at h1 h2; omega
          rw [da, db, this, he]
        · show [_, _, _, _, _, _, _, _, _, _, _, _, _, _, _, _, _, _, _, _, _, _, _, _, _, _, _, _, _, _, _, _, _, _, _, _] = _
          simp only [ej]
          rw [wi (by omega) (by omega)]
          rfl
  · show Eqv _ _
    have hi0 : i = 0 := by simp at h; omega
    subst hi0
    have : val a = val b := by simpa using he
    rw [cmpN, if_neg (by omega), if_neg (by omega)]
    exact .up (.up (.refl _))

def subV (x y : Nat) : AVal := if x < y then .tuple [.ro 1 0 (irow .u32 []), .int .i64 2] else limited (x - y)
theorem subV_closed (x y : Nat) : (subV x y).closed2 = true := by
  unfold subV
  split
  · rfl
  · exact limited_closed _

theorem sub_c {a b : List Int} (ha : Small a) (hb : Small b) (la : Limbs a) (lb : Limbs b) : callP Try.prog 128 [ints .u32 a, ints .u32 b] (· = subV (val a) (val b)) := by
  refine callE_def env (fn := Try.f128) rfl (by decide) (subV_closed _ _) ?_
  refine callT_E (cmp_c ha hb la lb) rfl ?_
  unfold Small at ha hb
  apply branch_intro <;> intro h
  · show Eqv _ (subV _ _)
    have : val a < val b := by
      unfold cmpN at h
      split at h
      · assumption
      · split at h <;> simp at h
    rw [subV, if_pos this]
    exact .tuple (.cons (.up (.nil _ _)) (.cons (.up (.refl _)) .nil))
  have hge : val b ≤ val a := by
    unfold cmpN at h
    split at h
    · simp at h
    · omega
  rw [subV, if_neg (by omega)]
  refine callT_E (limbs_c a) rfl ?_
  refine callT_E (limbs_c b) rfl ?_
  apply need_intro
  · omega
  apply choice_r
  refine loop_inv (keep 51 [0, 6, 7, 8, 9, 10])
    (fun s : AddSt => slots 51 [(0, ints .u32 a), (6, limbF a), (7, limbF b), (8, .slice ⟨0, 0, 0⟩ s.i), (9, .int .u64 s.c), (10, .int .i64 s.i)])
    (fun s => [.ints .u32 s.out]) (fun s => s.i ≤ a.length ∧ s.out.length = s.i ∧ Limbs s.out ∧ s.c ≤ 1 ∧ val (a.take s.i) + 2 ^ (32 * s.i) * s.c = val s.out + val (b.take s.i)) (fun s => a.length - s.i)
    ⟨0, 0, []⟩ ⟨by simp, rfl, (fun x hx => by cases hx), by simp, by simp [val]⟩ rfl rfl ?_
  rintro ⟨i, c, out⟩ ⟨hi, hlen, hlo, hc, hv⟩
  simp only at hi hlen hlo hc hv
  apply branch_intro <;> intro h
  · have hin : i < a.length := by simp at h; omega
    refine callT_E (limb_c (by simp) la) rfl ?_
    refine callT_E (limb_c (by simp) lb) rfl ?_
    have xa := limb_bound la i
    have xb := limb_bound lb i
    have et : ((i : Int)).toNat = i := by simp
    obtain ⟨x, hx⟩ : ∃ x : Nat, a.getD i 0 = x := ⟨(a.getD i 0).toNat, by omega⟩
    obtain ⟨y, hy⟩ : ∃ y : Nat, b.getD i 0 = y := ⟨(b.getD i 0).toNat, by omega⟩
    have hx1 : x < 4294967296 := by omega
    have hy1 : y < 4294967296 := by omega
    apply choice_l
    apply need_intro
    · show (i + 1) * 4 ≤ _
      omega
    apply need_intro
    · exact ⟨by rw [hlen]; simp, fun j hj => by
        have : j = 0 := by omega
        subst this
        exact ⟨_, rfl⟩⟩
    obtain ⟨d, hd⟩ : ∃ d : Nat, d = 4294967296 + x - y - c := ⟨_, rfl⟩
    have e1 : IntKind.u64.wrap (4294967296 + (x : Int)) = ((4294967296 + x : Nat) : Int) := by rw [wu64 (by omega) (by omega)]; omega
    have e2 : IntKind.u64.wrap (((4294967296 + x : Nat) : Int) - y) = ((4294967296 + x - y : Nat) : Int) := by rw [wu64 (by omega) (by omega)]; omega
    have e3 : IntKind.u64.wrap (((4294967296 + x - y : Nat) : Int) - c) = (d : Int) := by rw [wu64 (by omega) (by omega)]; omega
    have e4 : IntKind.u32.wrap (d : Int) = ((d % 4294967296 : Nat) : Int) := by rw [IntKind.wrap_u32]; omega
    have e5 : (d : Int).fdiv (2 ^ (min (32 : Int).toNat IntKind.u64.bits)) = ((d / 4294967296 : Nat) : Int) := by
      have : min (32 : Int).toNat IntKind.u64.bits = 32 := by decide
      rw [this, Int.fdiv_eq_ediv_of_nonneg _ (by decide)]
      omega
    have e6 : IntKind.u64.wrap (1 - ((d / 4294967296 : Nat) : Int)) = ((1 - d / 4294967296 : Nat) : Int) := by rw [wu64 (by omega) (by omega)]; omega
    have e7 : IntKind.i64.wrap ((i : Int) + 1) = ((i + 1 : Nat) : Int) := by rw [wi (by omega) (by omega)]; omega
    apply need_intro
    · decide
    refine ⟨⟨i + 1, 1 - d / 4294967296, out ++ [((d % 4294967296 : Nat) : Int)]⟩, ⟨by simp only; omega, by simp [hlen], ?_, by simp only; omega, ?_⟩, by simp only; omega, ?_, ?_⟩
    · intro z hz
      rcases List.mem_append.1 hz with hz | hz
      · exact hlo z hz
      · simp at hz
        omega
    · simp only [val_snoc, val_take_succ, hlen, hx, hy, Int.toNat_natCast]
      have hp : 2 ^ (32 * (i + 1)) = 2 ^ (32 * i) * 4294967296 := by
        rw [Nat.mul_add, Nat.mul_one, Nat.pow_add]
      rw [hp]
      generalize 2 ^ (32 * i) = p at hv ⊢
      have hdm := Nat.div_add_mod d 4294967296
      have hq : d / 4294967296 ≤ 1 := by omega
      generalize d / 4294967296 = q at hdm hq ⊢
      generalize d % 4294967296 = r at hdm ⊢
      have h0 : 4294967296 * (1 - q) + x = r + y + c := by
        rcases Nat.lt_or_ge q 1 with h | h
        · have : q = 0 := by omega
          subst this
          omega
        · have : q = 1 := by omega
          subst this
          omega
      have h1 : p * 4294967296 * (1 - q) + p * x = p * r + p * y + p * c := by
        rw [Nat.mul_assoc, ← Nat.mul_add, h0, Nat.mul_add, Nat.mul_add]
      omega
    · show [_, _, _, _, _, _, _, _, _, _, _, _, _, _, _, _, _, _, _, _, _, _, _, _, _, _, _, _, _, _, _, _, _, _, _, _, _, _, _, _, _, _, _, _, _, _, _, _, _, _, _] = _
      simp only [et, hx, hy, e1, e2, e3, e5, e6, e7]
      rfl
    · simp only [et, hx, hy, e1, e2, e3, e4, List.drop_zero]
      rfl
  · have hin : i = a.length := by simp at h; omega
    have ta : a.take i = a := List.take_of_length_le (by omega)
    have tb := val_drop b i lb
    have hlt := val_lt la
    have hlo' := val_lt hlo
    rw [ta] at hv
    rw [hlen] at hlo'
    rw [← hin] at hlt
    have hvo : val out = val a - val b := by
      generalize 2 ^ (32 * i) = p at hv tb hlt hlo'
      have hz : val (b.drop i) = 0 := by
        apply Classical.byContradiction
        intro hne
        have : p * 1 ≤ p * val (b.drop i) := Nat.mul_le_mul_left _ (by omega)
        omega
      rw [hz] at tb
      rcases Nat.lt_or_ge c 1 with h | h
      · have : c = 0 := by omega
        subst this
        omega
      · have : c = 1 := by omega
        subst this
        omega
    refine callT_last 0 rfl (Nat.le_refl _) ?_ ?_
    · exact hlen.symm
    · have hlc := limit_c (l := out) (by unfold Short; omega) hlo
      rw [hvo] at hlc
      refine callT_E hlc rfl ?_
      unfold limited
      split
      · show Eqv _ _
        exact .up (.up (.refl _))
      · show Eqv _ _
        exact .up (.up (.refl _))
end Go.Proofs.N13
/-! Nf. -/
namespace Go.Proofs.N13
open Go.E
set_option maxRecDepth 8000

theorem or_even {y b : Nat} (hy : 2 * y < 4294967296) (hb : b ≤ 1) : IntKind.u32.wrap ((BitVec.ofInt IntKind.u32.bits ((2 * y : Nat) : Int) ||| BitVec.ofInt IntKind.u32.bits (b : Int)).toNat : Int) = ((2 * y + b : Nat) : Int) := by
  have h1 : (BitVec.ofInt IntKind.u32.bits ((2 * y : Nat) : Int)).toNat = 2 * y := by
    rw [BitVec.ofInt_natCast, BitVec.toNat_ofNat]
    exact Nat.mod_eq_of_lt hy
  have h2 : (BitVec.ofInt IntKind.u32.bits (b : Int)).toNat = b := by
    rw [BitVec.ofInt_natCast, BitVec.toNat_ofNat]
    exact Nat.mod_eq_of_lt (by show b < 4294967296; omega)
  rw [BitVec.toNat_or, h1, h2]
  have h3 := Nat.two_pow_add_eq_or_of_lt (i := 1) (b := b) (by omega) y
  rw [Nat.pow_one] at h3
  rw [← h3]
  exact wu32 (by omega) (by omega)

theorem mid_get {d l : List Int} {i : Nat} (hd : d.length = i) : (d ++ l.drop i).getD i 0 = l.getD i 0 := by
  rw [List.getD_eq_getElem?_getD, List.getD_eq_getElem?_getD, List.getElem?_append_right (by omega), List.getElem?_drop]
  congr 2
  omega
theorem mid_set {d l : List Int} {i : Nat} (hd : d.length = i) (hi : i < l.length) (x : Int) : (d ++ l.drop i).set i x = (d ++ [x]) ++ l.drop (i + 1) := by
  rw [List.set_append_right _ _ (by omega), show i - d.length = 0 by omega, List.drop_eq_getElem_cons hi, List.set_cons_zero, List.append_assoc]
  rfl
theorem dbl_arith (p x c : Nat) : p * (2 * (x % 2147483648) + c) + p * 4294967296 * (x / 2147483648) = p * c + 2 * (p * x) := by
  have hd := Nat.div_add_mod x 2147483648
  generalize x / 2147483648 = q at hd ⊢
  generalize x % 2147483648 = r at hd ⊢
  subst hd
  have h1 : p * (2 * r) = 2 * (p * r) := Nat.mul_left_comm _ _ _
  have h2 : p * 4294967296 * q = 4294967296 * (p * q) := by rw [Nat.mul_comm p, Nat.mul_assoc]
  have h3 : p * (2147483648 * q) = 2147483648 * (p * q) := Nat.mul_left_comm _ _ _
  rw [Nat.mul_add, Nat.mul_add, h1, h2, h3]
  omega

def DblR (l : List Int) (bit : Nat) (v : AVal) (blk : Blk) : Prop := v = .tuple [] ∧ ∃ l', blk = .ints .u32 l' ∧ l'.length = l.length ∧ Limbs l' ∧ ∃ q, val l' + 2 ^ (32 * l.length) * q = 2 * val l + bit

theorem sub_arith (p x y c d : Nat) (hd : d = 4294967296 + x - y - c) (hx : x < 4294967296) (hy : y < 4294967296) (hc : c ≤ 1) : p * 4294967296 * (1 - d / 4294967296) + p * x = p * (d % 4294967296) + p * y + p * c := by
  have hdm := Nat.div_add_mod d 4294967296
  have hq : d / 4294967296 ≤ 1 := by omega
  generalize d / 4294967296 = q at hdm hq ⊢
  generalize d % 4294967296 = r at hdm ⊢
  have h0 : 4294967296 * (1 - q) + x = r + y + c := by
    rcases Nat.lt_or_ge q 1 with h | h
    · have : q = 0 := by omega
      subst this
      omega
    · have : q = 1 := by omega
      subst this
      omega
  rw [Nat.mul_assoc, ← Nat.mul_add, h0, Nat.mul_add, Nat.mul_add]

def TakeR (l b : List Int) (v : AVal) (blk : Blk) : Prop := v = .tuple [] ∧ ∃ l', blk = .ints .u32 l' ∧ l'.length = l.length ∧ Limbs l' ∧ val l' = val l - val b

end Go.Proofs.N13
/-! Ng. -/
namespace Go.Proofs.N13
open Go.E
set_option maxRecDepth 8000

theorem list_eq_of_getD {a b : List Int} (hl : a.length = b.length) (h : ∀ i, i < a.length → a.getD i 0 = b.getD i 0) : a = b := by
  refine List.ext_getElem hl fun i h1 h2 => ?_
  have := h i h1
  rw [List.getD_eq_getElem?_getD, List.getD_eq_getElem?_getD, List.getElem?_eq_getElem h1, List.getElem?_eq_getElem h2] at this
  exact this

theorem same_c {a b : List Int} (ha : Short a) : callP Try.prog 69 [ints .u32 a, ints .u32 b] (· = .bool (decide (a = b))) := by
  unfold Short at ha
  refine callE_def env (fn := Try.f69) rfl (by decide) rfl ?_
  apply branch_intro <;> intro h
  · show Eqv _ _
    have : a ≠ b := by
      rintro rfl
      simp at h
    rw [decide_eq_false this]
    exact .up (.up (.refl _))
  have hl : a.length = b.length := by
    simp at h
    omega
  refine loop_inv (keep 26 [0, 1, 5])
    (fun i : Nat => slots 26 [(0, ints .u32 a), (1, ints .u32 b), (5, .int .i64 i)])
    (fun _ => []) (fun i => i ≤ a.length ∧ ∀ j, j < i → a.getD j 0 = b.getD j 0) (fun i => a.length - i) 0 ⟨by omega, by omega⟩ rfl rfl ?_
  rintro i ⟨hi, hv⟩
  apply branch_intro <;> intro h
  · have hin : i < a.length := by simp at h; omega
    refine draw_intro [0, 1, 2, 3, 4, 5, 6, 7, 8] (by decide +kernel) ?_
    apply need_intro
    · omega
    apply need_intro
    · omega
    apply branch_intro <;> intro h2
    · show Eqv _ _
      have : a ≠ b := by
        rintro rfl
        simp at h2
      rw [decide_eq_false this]
      exact .up (.up (.refl _))
    · refine ⟨i + 1, ⟨by omega, fun j hj => ?_⟩, by omega, ?_, rfl⟩
      · by_cases hji : j = i
        · subst hji
          simpa using h2
        · exact hv j (by omega)
      · show [_, _, _, _, _, _, _, _, _, _, _, _, _, _, _, _, _, _, _, _, _, _, _, _, _, _] = _
        rw [wi (by omega) (by omega)]
        rfl
  · show Eqv _ _
    have hin : i = a.length := by simp at h; omega
    subst hin
    rw [decide_eq_true (list_eq_of_getD hl hv)]
    exact .up (.up (.refl _))

/-- Trim of the reference. -/
theorem rtrim_c {l : List Int} (hl : Short l) : callP Try.prog 113 [ints .u8 l] (· = ints .u8 (trimL l)) := by
  unfold Short at hl
  refine callE_def env (fn := Try.f113) rfl (by decide) rfl ?_
  refine loop_inv (keep 21 [0, 3]) (fun n : Nat => slots 21 [(0, ints .u8 l), (3, .int .i64 n)]) (fun _ => [])
    (fun n => n ≤ l.length ∧ trimL (l.take n) = trimL l) (fun n => n) l.length ⟨Nat.le_refl _, by simp⟩ rfl rfl ?_
  rintro n ⟨hn, ht⟩
  have stop : ∀ m : Nat, m ≤ l.length → trimL (l.take m) = trimL l → (m = 0 ∨ l.getD (m - 1) 0 ≠ 0) → retE (ints .u8 (trimL l)) (.ro 1 m (fun i => irow .u8 l (0 + i))) [] := by
    intro m hm ht h
    have : trimL l = l.take m := by
      rw [← ht]
      rcases h with rfl | h
      · simp [trimL]
      · cases m with
        | zero => simp [trimL]
        | succ m => rw [trimL_take (by omega), if_neg (by simpa using h)]
    show Eqv _ _
    rw [this]
    refine .up (.up (eqv_ints (by simp; omega) fun i hi => ?_))
    simp [irow, hi]
  apply branch_intro <;> intro h
  · repeat refine branch_true ?_
    obtain ⟨m, rfl⟩ : ∃ k, n = k + 1 := ⟨n - 1, by simp at h; omega⟩
    have e : IntKind.i64.wrap (((m + 1 : Nat) : Int) - 1) = m := by rw [wi (by omega) (by omega)]; omega
    rw [e]
    apply need_intro
    · omega
    · repeat refine branch_true ?_
      apply branch_intro <;> intro h2
      · refine ⟨m, ⟨by omega, ?_⟩, by omega, ?_, rfl⟩
        · rw [← ht, trimL_take (by omega), if_pos (by simpa using h2)]
        · show [_, _, _, _, _, _, _, _, _, _, _, _, _, _, _, _, _, _, _, _, _] = _
          rw [e]; rfl
      · apply need_intro
        · omega
        · exact stop (m + 1) hn ht (.inr (by simpa using h2))
  · repeat refine branch_false ?_
    apply need_intro
    · omega
    · exact stop n hn ht (.inl (by simp at h; omega))
end Go.Proofs.N13
/-! Nh. -/
namespace Go.Proofs.N13
open Go.E
set_option maxRecDepth 8000

theorem val_set {l : List Int} {k : Nat} (h : k < l.length) (x : Int) : val (l.set k x) + 2 ^ (32 * k) * (l.getD k 0).toNat = val l + 2 ^ (32 * k) * x.toNat := by
  induction l generalizing k with
  | nil => simp at h
  | cons y r ih =>
    cases k with
    | zero => simp [val]; omega
    | succ k =>
      have := ih (k := k) (by simpa using h)
      have hp : 2 ^ (32 * (k + 1)) = 4294967296 * 2 ^ (32 * k) := by
        rw [Nat.mul_add, Nat.mul_one, Nat.pow_add, Nat.mul_comm]
      simp only [List.set_cons_succ, val, List.getD_cons_succ]
      rw [hp, Nat.mul_assoc, Nat.mul_assoc]
      omega
theorem limbs_set {l : List Int} (h : Limbs l) {k : Nat} {x : Int} (hx : 0 ≤ x ∧ x < 4294967296) : Limbs (l.set k x) := fun y hy => by
  rcases List.mem_or_eq_of_mem_set hy with hy | rfl
  · exact h y hy
  · exact hx
theorem getD_zero {l : List Int} (h : Limbs l) {m : Nat} (hv : val l < 2 ^ (32 * m)) : l.getD m 0 = 0 := by
  have h1 := val_drop l m h
  have h2 : val (l.drop m) = 0 := by
    generalize 2 ^ (32 * m) = p at h1 hv
    apply Classical.byContradiction
    intro hne
    have : p * 1 ≤ p * val (l.drop m) := Nat.mul_le_mul_left _ (by omega)
    omega
  have h3 := val_drop_succ l m
  have h4 := limb_bound h m
  omega
theorem bitLen_prod {x y : Nat} (hx : x ≠ 0) (hy : y ≠ 0) : bitLen x + bitLen y - 1 ≤ bitLen (x * y) := by
  have h1 : 2 ^ (bitLen x - 1) ≤ x := by
    have hp := bitLen_pos hx
    apply Classical.byContradiction
    intro h
    have := bitLen_le.2 (Nat.lt_of_not_le h)
    omega
  have h2 : 2 ^ (bitLen y - 1) ≤ y := by
    have hp := bitLen_pos hy
    apply Classical.byContradiction
    intro h
    have := bitLen_le.2 (Nat.lt_of_not_le h)
    omega
  have hp := bitLen_pos hx
  have hq := bitLen_pos hy
  have h3 : 2 ^ (bitLen x - 1 + (bitLen y - 1)) ≤ x * y := by
    rw [Nat.pow_add]
    exact Nat.mul_le_mul h1 h2
  apply Classical.byContradiction
  intro h
  have := bitLen_le.1 (show bitLen (x * y) ≤ bitLen x - 1 + (bitLen y - 1) by omega)
  omega

theorem mul_arith (P c x y o s V W : Nat) (hs : s = c + x * y + o) (h : V + P * c = W) : V + P * (s % 4294967296) + P * 4294967296 * (s / 4294967296) = W + P * o + P * (x * y) := by
  have hd := Nat.div_add_mod s 4294967296
  generalize s / 4294967296 = q at hd ⊢
  generalize s % 4294967296 = r at hd ⊢
  have h1 : P * r + P * 4294967296 * q = P * c + P * (x * y) + P * o := by
    rw [Nat.mul_assoc P, ← Nat.mul_add, Nat.add_comm r, hd, hs, Nat.mul_add, Nat.mul_add]
  omega

set_option maxRecDepth 4000 in
set_option maxHeartbeats 2000000 in
theorem mul_c {a b : List Int} (ha : Small a) (hb : Small b) (la : Limbs a) (lb : Limbs b) : callP Try.prog 97 [ints .u32 a, ints .u32 b] (· = limited (val a * val b)) := by
  have sa := trim_short ha.short
  have sb := trim_short hb.short
  refine callE_def env (fn := Try.f97) rfl (by decide) (limited_closed _) ?_
  refine callT_E (trim_c ha.short) rfl (callT_E (trim_c hb.short) rfl ?_)
  unfold Small at ha hb
  rw [trim_val la] at sa ⊢
  rw [trim_val lb] at sb ⊢
  have na : (limbsOf (val a)).length ≤ a.length := by rw [← trim_val la]; exact trimL_le a
  have nb : (limbsOf (val b)).length ≤ b.length := by rw [← trim_val lb]; exact trimL_le b
  have va := val_limbsOf (val a)
  have vb := val_limbsOf (val b)
  have la' := limbs_limbsOf (val a)
  have lb' := limbs_limbsOf (val b)
  generalize hA : limbsOf (val a) = A at sa na va la' ⊢
  generalize hB : limbsOf (val b) = B at sb nb vb lb' ⊢
  rw [← va, ← vb]
  have zero : val A * val B = 0 → retE (limited (val A * val B)) (.tuple [.nilslice, .int .i64 0]) [] := fun h => by
    show Eqv _ (limited _)
    rw [h, limited, if_neg (by rw [bitLen_zero]; omega), limbsOf_zero]
    exact .tuple (.cons (.up (.nil _ _)) (.cons (.up (.refl _)) .nil))
  apply branch_intro <;> intro h
  · repeat refine branch_true ?_
    have : A = [] := List.eq_nil_of_length_eq_zero (by simpa using h)
    subst this
    exact zero (by simp [val])
  repeat refine branch_false ?_
  apply branch_intro <;> intro h'
  · have : B = [] := List.eq_nil_of_length_eq_zero (by simpa using h')
    subst this
    exact zero (by simp [val])
  have hA0 : val A ≠ 0 := fun h0 => by
    rw [← va] at hA
    rw [h0, limbsOf_zero] at hA
    subst hA
    simp at h
  have hB0 : val B ≠ 0 := fun h0 => by
    rw [← vb] at hB
    rw [h0, limbsOf_zero] at hB
    subst hB
    simp at h'
  refine callT_E (bits_c sa la') rfl (callT_E (bits_c sb lb') rfl ?_)
  have ba := bitLen_le.2 (val_lt la')
  have bb := bitLen_le.2 (val_lt lb')
  have hprod := bitLen_prod hA0 hB0
  have pa := bitLen_pos hA0
  apply branch_intro <;> intro h2
  · rw [wi (by rw [wi (by omega) (by omega)]; omega) (by rw [wi (by omega) (by omega)]; omega), wi (by omega) (by omega)] at h2
    show Eqv _ (limited _)
    rw [limited, if_pos (by simp at h2; omega)]
    exact .tuple (.cons (.up (.nil _ _)) (.cons (.up (.refl _)) .nil))
  have e1 : IntKind.i64.wrap ((A.length : Int) + B.length) = ((A.length + B.length : Nat) : Int) := by rw [wi (by omega) (by omega)]; omega
  apply need_intro
  · rw [e1]; omega
  apply choice_r
  obtain ⟨n, hn⟩ : ∃ n, n = A.length + B.length := ⟨_, rfl⟩
  refine loop_inv (keep 89 [0, 1, 6, 36, 37])
    (fun s : AddSt => slots 89 [(0, ints .u32 A), (1, ints .u32 B), (6, .slice ⟨0, 0, 0⟩ n), (36, .int .i64 A.length), (37, .int .i64 s.i)])
    (fun s => [.ints .u32 s.out]) (fun s => s.i ≤ A.length ∧ s.out.length = n ∧ Limbs s.out ∧ val s.out = val (A.take s.i) * val B) (fun s => A.length - s.i)
    ⟨0, 0, List.replicate n 0⟩ ⟨by simp, by simp, (fun x hx => by rw [List.eq_of_mem_replicate hx]; omega), ?_⟩ ?_ ?_ ?_
  · have hz : ∀ m, val (List.replicate m 0) = 0 := fun m => by
      induction m with
      | zero => rfl
      | succ m ih => rw [List.replicate_succ, val, ih]; rfl
    simp [hz, val]
  · show [_, _, _, _, _, _, _, _, _, _, _, _, _, _, _, _, _, _, _, _, _, _, _, _, _, _, _, _, _, _, _, _, _, _, _, _, _, _, _, _, _, _, _, _, _, _, _, _, _, _, _, _, _, _, _, _, _, _, _, _, _, _, _, _, _, _, _, _, _, _, _, _, _, _, _, _, _, _, _, _, _, _, _, _, _, _, _, _, _] = _
    simp only [e1, Int.toNat_natCast, ← hn]
    rfl
  · simp only [e1, Int.toNat_natCast, ← hn]
  rintro ⟨i, c0, out⟩ ⟨hi, hlen, hlo, hv⟩
  simp only at hi hlen hlo hv
  apply branch_intro <;> intro h3
  · have hin : i < A.length := by simp at h3; omega
    have xa := limb_bound la' i
    obtain ⟨x, hx⟩ : ∃ x : Nat, A.getD i 0 = x := ⟨(A.getD i 0).toNat, by omega⟩
    have hx1 : x < 4294967296 := by omega
    have hz : out.getD (i + B.length) 0 = 0 := by
      refine getD_zero hlo ?_
      rw [hv, Nat.mul_add, Nat.pow_add]
      exact Nat.mul_lt_mul'' (take_lt la' i) (val_lt lb')
    refine loop_inv (keep 89 [0, 1, 6, 7, 8, 36, 37, 41, 42])
      (fun s : AddSt => slots 89 [(0, ints .u32 A), (1, ints .u32 B), (6, .slice ⟨0, 0, 0⟩ n), (7, .int .i64 i), (8, .int .u64 s.c), (36, .int .i64 A.length), (37, .int .i64 i), (41, .int .i64 B.length), (42, .int .i64 s.i)])
      (fun s => [.ints .u32 s.out]) (fun s => s.i ≤ B.length ∧ s.out.length = n ∧ Limbs s.out ∧ s.c < 4294967296 ∧ val s.out + 2 ^ (32 * (i + s.i)) * s.c = val out + 2 ^ (32 * i) * (x * val (B.take s.i)) ∧ s.out.getD (i + B.length) 0 = 0) (fun s => B.length - s.i)
      ⟨0, 0, out⟩ ⟨by simp, hlen, hlo, by simp, by simp [val], hz⟩ rfl rfl ?_
    rintro ⟨k, c, o⟩ ⟨hk, hol, hoo, hc, hw, hoz⟩
    simp only at hk hol hoo hc hw hoz
    apply branch_intro <;> intro h4
    · have hkn : k < B.length := by simp at h4; omega
      have xb := limb_bound lb' k
      have xo := limb_bound hoo (i + k)
      obtain ⟨y, hy⟩ : ∃ y : Nat, B.getD k 0 = y := ⟨(B.getD k 0).toNat, by omega⟩
      obtain ⟨z, hz'⟩ : ∃ z : Nat, o.getD (i + k) 0 = z := ⟨(o.getD (i + k) 0).toNat, by omega⟩
      have hy1 : y < 4294967296 := by omega
      have hz1 : z < 4294967296 := by omega
      have hxy : x * y ≤ 4294967295 * 4294967295 := Nat.mul_le_mul (by omega) (by omega)
      have e2 : IntKind.i64.wrap ((i : Int) + k) = ((i + k : Nat) : Int) := by rw [wi (by omega) (by omega)]; omega
      refine draw_intro [0, 1, 2, 3, 4, 5, 6, 7, 8, 9, 10, 11, 12, 13, 14, 15, 16, 17, 18, 19, 20, 21] (by decide +kernel) ?_
      obtain ⟨s, hs⟩ : ∃ s : Nat, s = c + x * y + z := ⟨_, rfl⟩
      have ei : 0 + (((i + k : Nat) : Int)).toNat + 0 = i + k := by omega
      have ti : ((i : Int)).toNat = i := by simp
      have tk : ((k : Int)).toNat = k := by simp
      have w1 : IntKind.u64.wrap (x : Int) = x := wu64 (by omega) (by omega)
      have w2 : IntKind.u64.wrap (y : Int) = y := wu64 (by omega) (by omega)
      have w3 : IntKind.u64.wrap (z : Int) = z := wu64 (by omega) (by omega)
      have w4 : IntKind.u64.wrap ((x : Int) * y) = ((x * y : Nat) : Int) := by rw [← Int.natCast_mul, wu64 (by omega) (by omega)]
      have w5 : IntKind.u64.wrap (((x * y : Nat) : Int) + z) = ((x * y + z : Nat) : Int) := by rw [wu64 (by omega) (by omega)]; omega
      have w6 : IntKind.u64.wrap ((c : Int) + ((x * y + z : Nat) : Int)) = (s : Int) := by rw [wu64 (by omega) (by omega)]; omega
      have w7 : IntKind.u32.wrap (s : Int) = ((s % 4294967296 : Nat) : Int) := by rw [IntKind.wrap_u32]; omega
      have w8 : (s : Int).fdiv (2 ^ (min (32 : Int).toNat IntKind.u64.bits)) = ((s / 4294967296 : Nat) : Int) := by
        have : min (32 : Int).toNat IntKind.u64.bits = 32 := by decide
        rw [this, Int.fdiv_eq_ediv_of_nonneg _ (by decide)]
        omega
      have w9 : IntKind.i64.wrap ((k : Int) + 1) = ((k + 1 : Nat) : Int) := by rw [wi (by omega) (by omega)]; omega
      apply need_intro
      · try dsimp only
        omega
      apply need_intro
      · try dsimp only
        omega
      apply need_intro
      · try dsimp only
        rw [e2]
        omega
      apply need_intro
      · try dsimp only
        rw [e2, hol]
        omega
      apply need_intro
      · try dsimp only
        rw [e2]
        omega
      apply need_intro
      · try dsimp only
        rw [e2, hol]
        omega
      apply need_intro
      · decide
      refine ⟨⟨k + 1, s / 4294967296, o.set (i + k) ((s % 4294967296 : Nat) : Int)⟩, ⟨by simp only; omega, by simp [hol], limbs_set hoo (by omega), ?_, ?_, ?_⟩, by simp only; omega, ?_, ?_⟩
      · show s / 4294967296 < 4294967296
        omega
      · have hset := val_set (l := o) (k := i + k) (by omega) ((s % 4294967296 : Nat) : Int)
        rw [hz', Int.toNat_natCast, Int.toNat_natCast] at hset
        simp only [val_take_succ, hy, Int.toNat_natCast]
        have hp : 2 ^ (32 * (i + (k + 1))) = 2 ^ (32 * (i + k)) * 4294967296 := by
          rw [← Nat.add_assoc, Nat.mul_add, Nat.mul_one, Nat.pow_add]
        have hq : 2 ^ (32 * i) * (x * (val (B.take k) + 2 ^ (32 * k) * y)) = 2 ^ (32 * i) * (x * val (B.take k)) + 2 ^ (32 * (i + k)) * (x * y) := by
          have : 2 ^ (32 * (i + k)) = 2 ^ (32 * i) * 2 ^ (32 * k) := by rw [Nat.mul_add, Nat.pow_add]
          rw [this, Nat.mul_add x, Nat.mul_add, Nat.mul_left_comm x, Nat.mul_assoc (2 ^ (32 * i))]
        rw [hp, hq]
        have := mul_arith (2 ^ (32 * (i + k))) c x y z s _ _ hs hw
        omega
      · show (o.set (i + k) _).getD (i + B.length) 0 = 0
        rw [List.getD_eq_getElem?_getD, List.getElem?_set_ne (by omega), ← List.getD_eq_getElem?_getD]
        exact hoz
      · show [_, _, _, _, _, _, _, _, _, _, _, _, _, _, _, _, _, _, _, _, _, _, _, _, _, _, _, _, _, _, _, _, _, _, _, _, _, _, _, _, _, _, _, _, _, _, _, _, _, _, _, _, _, _, _, _, _, _, _, _, _, _, _, _, _, _, _, _, _, _, _, _, _, _, _, _, _, _, _, _, _, _, _, _, _, _, _, _, _] = _
        simp only [ei, ti, tk, e2, hx, hy, hz', w1, w2, w3, w4, w5, w6, w8, w9]
        rfl
      · simp only [ei, ti, tk, e2, hx, hy, hz', w1, w2, w3, w4, w5, w6, w7]
    · have hkn : k = B.length := by simp at h4; omega
      subst hkn
      have tb : B.take B.length = B := List.take_of_length_le (by omega)
      rw [tb] at hw
      have e2 : IntKind.i64.wrap ((i : Int) + B.length) = ((i + B.length : Nat) : Int) := by rw [wi (by omega) (by omega)]; omega
      have ei : 0 + (((i + B.length : Nat) : Int)).toNat + 0 = i + B.length := by omega
      have w7 : IntKind.u32.wrap (c : Int) = (c : Int) := wu32 (by omega) (by omega)
      have w9 : IntKind.i64.wrap ((i : Int) + 1) = ((i + 1 : Nat) : Int) := by rw [wi (by omega) (by omega)]; omega
      apply need_intro
      · rw [e2]
        omega
      apply need_intro
      · rw [e2, hol]
        omega
      refine ⟨⟨i + 1, 0, o.set (i + B.length) (c : Int)⟩, ⟨by simp only; omega, by simp [hol], limbs_set hoo (by omega), ?_⟩, by simp only; omega, ?_, ?_⟩
      · have hset := val_set (l := o) (k := i + B.length) (by omega) (c : Int)
        rw [hoz, Int.toNat_natCast] at hset
        simp only [val_take_succ, hx, Int.toNat_natCast]
        rw [Nat.add_mul, ← hv, Nat.mul_assoc]
        simp only [Int.toNat_zero, Nat.mul_zero, Nat.add_zero] at hset
        omega
      · show [_, _, _, _, _, _, _, _, _, _, _, _, _, _, _, _, _, _, _, _, _, _, _, _, _, _, _, _, _, _, _, _, _, _, _, _, _, _, _, _, _, _, _, _, _, _, _, _, _, _, _, _, _, _, _, _, _, _, _, _, _, _, _, _, _, _, _, _, _, _, _, _, _, _, _, _, _, _, _, _, _, _, _, _, _, _, _, _, _] = _
        simp only [w9]
        rfl
      · simp only [e2, ei, w7]
  · have hin : i = A.length := by simp at h3; omega
    subst hin
    have ta : A.take A.length = A := List.take_of_length_le (by omega)
    rw [ta] at hv
    refine callT_last 0 rfl (Nat.le_refl _) hlen.symm ?_
    have hlc := limit_c (l := out) (by unfold Short; omega) hlo
    rw [hv] at hlc
    refine callT_E hlc rfl ?_
    unfold limited
    split
    · show Eqv _ _
      exact .up (.up (.refl _))
    · show Eqv _ _
      exact .up (.up (.refl _))
end Go.Proofs.N13
/-! Ni. -/
namespace Go.Proofs.N13
open Go.E
set_option maxRecDepth 8000

theorem val_div {l : List Int} (h : Limbs l) (k : Nat) : val l / 2 ^ (32 * k) = (l.getD k 0).toNat + 4294967296 * val (l.drop (k + 1)) := by
  rw [val_drop l k h, ← val_drop_succ, Nat.add_mul_div_left _ _ (Nat.two_pow_pos _), Nat.div_eq_of_lt (take_lt h k), Nat.zero_add]
theorem two32 {s : Nat} (hs : s < 32) : ∃ e, 4294967296 = 2 ^ s * (2 * e) := by
  refine ⟨2 ^ (31 - s), ?_⟩
  rw [← Nat.pow_succ', ← Nat.pow_add, show s + (31 - s + 1) = 32 by omega]

/-- The bit j. -/
theorem bit_at {l : List Int} (h : Limbs l) (j : Nat) : ((l.getD (j / 32) 0).toNat / 2 ^ (j % 32)) % 2 = val l / 2 ^ j % 2 := by
  obtain ⟨e, he⟩ := two32 (s := j % 32) (Nat.mod_lt _ (by omega))
  have hj : 2 ^ j = 2 ^ (32 * (j / 32)) * 2 ^ (j % 32) := by rw [← Nat.pow_add, Nat.div_add_mod]
  rw [hj, ← Nat.div_div_eq_div_mul, val_div h, he, Nat.mul_assoc, Nat.add_mul_div_left _ _ (Nat.two_pow_pos _), Nat.mul_assoc, Nat.add_mul_mod_self_left]

/-- A limb of a number whose last bits are zero: one bit more. -/
theorem limb_or {l : List Int} (h : Limbs l) {j : Nat} (hd : 2 ^ (j + 1) ∣ val l) :
    IntKind.u32.wrap ((BitVec.ofInt IntKind.u32.bits (l.getD (j / 32) 0) ||| BitVec.ofInt IntKind.u32.bits ((2 ^ (j % 32) : Nat) : Int)).toNat : Int) = (((l.getD (j / 32) 0).toNat + 2 ^ (j % 32) : Nat) : Int) ∧
      (l.getD (j / 32) 0).toNat + 2 ^ (j % 32) < 4294967296 := by
  have hb := limb_bound h (j / 32)
  obtain ⟨x, hx⟩ : ∃ x : Nat, l.getD (j / 32) 0 = x := ⟨(l.getD (j / 32) 0).toNat, by omega⟩
  have hs : j % 32 < 32 := Nat.mod_lt _ (by omega)
  obtain ⟨e, he⟩ := two32 hs
  have hp : 0 < 2 ^ (j % 32) := Nat.two_pow_pos _
  have hdiv : 2 ^ (j % 32 + 1) ∣ x := by
    have hj : 2 ^ (j + 1) = 2 ^ (32 * (j / 32)) * 2 ^ (j % 32 + 1) := by
      rw [← Nat.pow_add, ← Nat.add_assoc, Nat.div_add_mod]
    obtain ⟨t, ht⟩ := hd
    have h1 := val_div h (j / 32)
    rw [ht, hj, Nat.mul_assoc, Nat.mul_div_cancel_left _ (Nat.two_pow_pos _), hx, Int.toNat_natCast, he] at h1
    rw [Nat.pow_succ] at h1 ⊢
    have h2 : 2 ^ (j % 32) * 2 ∣ 2 ^ (j % 32) * (2 * e) * val (l.drop (j / 32 + 1)) := ⟨e * val (l.drop (j / 32 + 1)), by simp only [Nat.mul_assoc]⟩
    exact (Nat.dvd_add_left h2).1 ⟨t, h1.symm⟩
  obtain ⟨y, rfl⟩ := hdiv
  rw [hx, Int.toNat_natCast]
  have hlt : 2 ^ (j % 32 + 1) * y + 2 ^ (j % 32) < 4294967296 := by
    have h3 : 2 ^ (j % 32 + 1) * y < 2 ^ (j % 32) * (2 * e) := by rw [← he]; omega
    have h4 : 2 ^ (j % 32 + 1) * y = 2 ^ (j % 32) * (2 * y) := by rw [Nat.pow_succ, Nat.mul_assoc]
    rw [h4] at h3 ⊢
    have h5 := Nat.lt_of_mul_lt_mul_left h3
    have h6 : 2 ^ (j % 32) * (2 * y) + 2 ^ (j % 32) = 2 ^ (j % 32) * (2 * y + 1) := by rw [Nat.mul_succ]
    rw [h6, he]
    exact Nat.mul_lt_mul_of_pos_left (by omega) hp
  refine ⟨?_, hlt⟩
  have h1 : (BitVec.ofInt IntKind.u32.bits ((2 ^ (j % 32 + 1) * y : Nat) : Int)).toNat = 2 ^ (j % 32 + 1) * y := by
    rw [BitVec.ofInt_natCast, BitVec.toNat_ofNat]
    exact Nat.mod_eq_of_lt (by show _ < 4294967296; omega)
  have h2 : (BitVec.ofInt IntKind.u32.bits ((2 ^ (j % 32) : Nat) : Int)).toNat = 2 ^ (j % 32) := by
    rw [BitVec.ofInt_natCast, BitVec.toNat_ofNat]
    exact Nat.mod_eq_of_lt (by show _ < 4294967296; omega)
  rw [BitVec.toNat_or, h1, h2]
  have h3 := Nat.two_pow_add_eq_or_of_lt (i := j % 32 + 1) (b := 2 ^ (j % 32)) (Nat.pow_lt_pow_right (by omega) (by omega)) y
  rw [← h3]
  exact wu32 (by omega) (by omega)

/-- One step of the division, bit by bit. -/
theorem div_step {X B bit : Nat} (hb : bit ≤ 1) (hB : 0 < B) :
    (2 * X + bit) / B = 2 * (X / B) + (if B ≤ 2 * (X % B) + bit then 1 else 0) ∧ (2 * X + bit) % B = 2 * (X % B) + bit - (if B ≤ 2 * (X % B) + bit then B else 0) := by
  have h1 := Nat.div_add_mod X B
  have h2 := Nat.mod_lt X hB
  generalize X / B = q at h1 ⊢
  generalize X % B = r at h1 h2 ⊢
  subst h1
  have e : 2 * (B * q + r) + bit = (2 * r + bit) + B * (2 * q) := by rw [Nat.mul_left_comm B 2 q]; omega
  rw [e, Nat.add_mul_div_left _ _ hB, Nat.add_mul_mod_self_left]
  by_cases h : B ≤ 2 * r + bit
  · rw [if_pos h, if_pos h]
    have h3 : 2 * r + bit = (2 * r + bit - B) + B * 1 := by omega
    constructor
    · rw [h3, Nat.add_mul_div_left _ _ hB, Nat.div_eq_of_lt (by omega)]; omega
    · rw [h3, Nat.add_mul_mod_self_left, Nat.mod_eq_of_lt (by omega)]; omega
  · rw [if_neg h, if_neg h, Nat.div_eq_of_lt (by omega), Nat.mod_eq_of_lt (by omega)]
    omega

theorem div_plain {VA VB j bit vq vr : Nat} (hbt : bit = VA / 2 ^ j % 2) (hB : VB ≠ 0) (hvq : vq = VA / 2 ^ (j + 1) / VB * 2 ^ (j + 1)) (hvr : vr = VA / 2 ^ (j + 1) % VB) :
    (VB ≤ 2 * vr + bit → VA / 2 ^ j / VB * 2 ^ j = vq + 2 ^ j ∧ VA / 2 ^ j % VB = 2 * vr + bit - VB) ∧ (2 * vr + bit < VB → VA / 2 ^ j / VB * 2 ^ j = vq ∧ VA / 2 ^ j % VB = 2 * vr + bit) := by
  have hX : VA / 2 ^ j = 2 * (VA / 2 ^ (j + 1)) + bit := by
    rw [hbt, Nat.pow_succ, ← Nat.div_div_eq_div_mul]
    omega
  have hstep := div_step (X := VA / 2 ^ (j + 1)) (B := VB) (bit := bit) (by omega) (by omega)
  rw [← hX, ← hvr] at hstep
  have e : ∀ t : Nat, (2 * (VA / 2 ^ (j + 1) / VB) + t) * 2 ^ j = vq + t * 2 ^ j := fun t => by
    rw [hvq, Nat.pow_succ, Nat.add_mul, Nat.mul_comm (2 ^ j) 2, ← Nat.mul_assoc, Nat.mul_comm (_ / _) 2]
  refine ⟨fun h => ?_, fun h => ?_⟩
  · rw [if_pos h, if_pos h] at hstep
    rw [hstep.1, e, Nat.one_mul]
    exact ⟨rfl, hstep.2⟩
  · rw [if_neg (by omega), if_neg (by omega)] at hstep
    rw [hstep.1, e, Nat.zero_mul]
    exact ⟨rfl, hstep.2⟩
end Go.Proofs.N13
/-! Nj. -/
namespace Go.Proofs.N13
open Go.E
set_option maxRecDepth 8000

def divV (x y : Nat) : AVal := if y = 0 then .tuple [.ro 1 0 (irow .u32 []), .ro 1 0 (irow .u32 []), .int .i64 2] else .tuple [ints .u32 (limbsOf (x / y)), ints .u32 (limbsOf (x % y)), .int .i64 0]
theorem divV_closed (x y : Nat) : (divV x y).closed2 = true := by unfold divV; split <;> rfl

structure DivSt where
  m : Nat
  q : List Int
  r : List Int

theorem zeros_val : ∀ m, val (List.replicate m 0) = 0
  | 0 => rfl
  | m + 1 => by rw [List.replicate_succ, val, zeros_val m]; rfl

theorem pow_limb (n : Nat) : 2 ^ (32 * (n + 1)) = 2 ^ (32 * n) * 4294967296 := by
  rw [Nat.mul_add, Nat.mul_one, Nat.pow_add]
theorem dbl_fits {p vr bit r1 qq vB : Nat} (h1 : vB < p) (h2 : vr < vB) (h3 : bit ≤ 1) (h : r1 + p * 4294967296 * qq = 2 * vr + bit) : r1 = 2 * vr + bit := by
  obtain ⟨s, hs⟩ : ∃ s, p * 4294967296 = s := ⟨_, rfl⟩
  have h5 : p * 2 ≤ s := by rw [← hs]; exact Nat.mul_le_mul_left p (by decide)
  rw [hs] at h
  rcases Nat.eq_zero_or_pos qq with hq | hq
  · rw [hq, Nat.mul_zero] at h
    exact h
  · have h4 := Nat.le_mul_of_pos_right s hq
    clear hs
    generalize s * qq = t at h h4
    omega
theorem set_bit {v p x s w j : Nat} {k : Nat} (hs : s = 2 ^ (j % 32)) (hk : p = 2 ^ (32 * k)) (hj : k = j / 32) (h : w + p * x = v + p * (x + s)) : w = v + 2 ^ j := by
  subst hj hs hk
  rw [Nat.mul_add, ← Nat.pow_add, Nat.div_add_mod] at h
  omega
theorem shl_one {s : Nat} (h : s < 32) : IntKind.u32.wrap (1 * 2 ^ (min s IntKind.u32.bits)) = ((2 ^ s : Nat) : Int) := by
  have hb : IntKind.u32.bits = 32 := rfl
  have hp : 2 ^ s < 2 ^ 32 := Nat.pow_lt_pow_right (by omega) h
  rw [hb, Nat.min_eq_left (by omega), Int.one_mul, IntKind.wrap_u32]
  have : ((2 : Int) ^ s) = ((2 ^ s : Nat) : Int) := by simp
  rw [this]
  have h32 : (2 : Nat) ^ 32 = 4294967296 := rfl
  rw [h32] at hp
  generalize 2 ^ s = t at hp ⊢
  omega

end Go.Proofs.N13
