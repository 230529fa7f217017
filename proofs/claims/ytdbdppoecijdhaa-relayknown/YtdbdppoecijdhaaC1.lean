/- The program's types, as the engine reads them (printed by wip/tenv.py). -/
import Derived.Test.YtdbdppoecijdhaaProg
import Derived.Test.YtdbdppoecijdhaaE2
import Derived.Shelf.Strings.BuilderK
import Derived.WalkKit
import Derived.BigCall
import Derived.Test.YtdbdppoecijdhaaE1
import Derived.Shelf.Strings.Builder1
import Derived.Shelf.Strings.BuilderF
import Derived.Test.YtdbdppoecijdhaaE5
import Derived.Laws.Bits64
import Derived.Laws.BitsLemmas
set_option linter.unusedVariables false
set_option linter.unusedSimpArgs false
/-! Te. -/
namespace Go.Proofs
open Go.E
noncomputable def Tenv : TEnv := [
  ⟨1, 0, .other, some [.any], true⟩,
  ⟨1, 8, .func, some [.nilfn], true⟩,
  ⟨1, 8, .int .i64, some [.int .i64 0], true⟩,
  ⟨1, 8, .int .i64, some [.int .i64 0], true⟩,
  ⟨1, 1, .bool, some [.bool false], true⟩,
  ⟨1, 1, .int .u8, some [.int .u8 0], true⟩,
  ⟨1, 1, .int .u8, some [.int .u8 0], true⟩,
  ⟨4, 24, .struct [(0, 2), (1, 3), (2, 4), (3, 6)], some [.int .i64 0, .int .i64 0, .bool false, .int .u8 0], true⟩,
  ⟨4, 24, .struct [(0, 2), (1, 3), (2, 4), (3, 6)], some [.int .i64 0, .int .i64 0, .bool false, .int .u8 0], true⟩,
  ⟨1, 16, .str, some [.str ⟨#[]⟩], true⟩,
  ⟨1, 16, .str, some [.str ⟨#[]⟩], true⟩,
  ⟨1, 16, .str, some [.str ⟨#[]⟩], true⟩,
  ⟨1, 8, .int .u64, some [.int .u64 0], true⟩,
  ⟨2, 24, .struct [(0, 9), (1, 12)], some [.str ⟨#[]⟩, .int .u64 0], false⟩,
  ⟨2, 24, .struct [(0, 9), (1, 12)], some [.str ⟨#[]⟩, .int .u64 0], false⟩,
  ⟨1, 8, .ptr, some [.nilptr], true⟩,
  ⟨1, 8, .ptr, some [.nilptr], true⟩,
  ⟨1, 8, .ptr, some [.nilptr], true⟩,
  ⟨1, 8, .struct [(0, 17)], some [.nilptr], false⟩,
  ⟨1, 8, .struct [(0, 17)], some [.nilptr], false⟩,
  ⟨1, 16, .other, some [.any], true⟩,
  ⟨1, 4, .int .i32, some [.int .i32 0], true⟩,
  ⟨2, 2, .arr 2 5, some [.int .u8 0, .int .u8 0], true⟩,
  ⟨5, 5, .arr 5 5, some [.int .u8 0, .int .u8 0, .int .u8 0, .int .u8 0, .int .u8 0], true⟩,
  ⟨6, 6, .struct [(0, 5), (1, 23)], some [.int .u8 0, .int .u8 0, .int .u8 0, .int .u8 0, .int .u8 0, .int .u8 0], true⟩,
  ⟨6, 6, .struct [(0, 5), (1, 23)], some [.int .u8 0, .int .u8 0, .int .u8 0, .int .u8 0, .int .u8 0, .int .u8 0], true⟩,
  ⟨18, 18, .arr 3 25, some [.int .u8 0, .int .u8 0, .int .u8 0, .int .u8 0, .int .u8 0, .int .u8 0, .int .u8 0, .int .u8 0, .int .u8 0, .int .u8 0, .int .u8 0, .int .u8 0, .int .u8 0, .int .u8 0, .int .u8 0, .int .u8 0, .int .u8 0, .int .u8 0], true⟩,
  ⟨1, 2, .int .u16, some [.int .u16 0], true⟩,
  ⟨26, 28, .struct [(0, 22), (2, 22), (4, 22), (6, 26), (24, 27), (25, 27)], some [.int .u8 0, .int .u8 0, .int .u8 0, .int .u8 0, .int .u8 0, .int .u8 0, .int .u8 0, .int .u8 0, .int .u8 0, .int .u8 0, .int .u8 0, .int .u8 0, .int .u8 0, .int .u8 0, .int .u8 0, .int .u8 0, .int .u8 0, .int .u8 0, .int .u8 0, .int .u8 0, .int .u8 0, .int .u8 0, .int .u8 0, .int .u8 0, .int .u16 0, .int .u16 0], true⟩,
  ⟨26, 28, .struct [(0, 22), (2, 22), (4, 22), (6, 26), (24, 27), (25, 27)], some [.int .u8 0, .int .u8 0, .int .u8 0, .int .u8 0, .int .u8 0, .int .u8 0, .int .u8 0, .int .u8 0, .int .u8 0, .int .u8 0, .int .u8 0, .int .u8 0, .int .u8 0, .int .u8 0, .int .u8 0, .int .u8 0, .int .u8 0, .int .u8 0, .int .u8 0, .int .u8 0, .int .u8 0, .int .u8 0, .int .u8 0, .int .u8 0, .int .u16 0, .int .u16 0], true⟩,
  ⟨1, 2, .int .u16, some [.int .u16 0], true⟩,
  ⟨1, 8, .func, some [.nilfn], true⟩,
  ⟨1, 8, .int .i64, some [.int .i64 0], true⟩,
  ⟨1, 0, .other, some [.any], true⟩,
  ⟨1, 8, .func, some [.nilfn], true⟩,
  ⟨1, 8, .func, some [.nilfn], true⟩,
  ⟨1, 0, .other, some [.any], true⟩,
  ⟨1, 8, .func, some [.nilfn], true⟩,
  ⟨1, 8, .func, some [.nilfn], true⟩,
  ⟨1, 8, .func, some [.nilfn], true⟩,
  ⟨1, 8, .func, some [.nilfn], true⟩,
  ⟨1, 0, .other, some [.any], true⟩,
  ⟨1, 8, .func, some [.nilfn], true⟩,
  ⟨1, 24, .slice 30, some [.nilslice], true⟩,
  ⟨1, 0, .other, some [.any], true⟩,
  ⟨1, 8, .func, some [.nilfn], true⟩,
  ⟨1, 8, .func, some [.nilfn], true⟩,
  ⟨1, 8, .func, some [.nilfn], true⟩,
  ⟨1, 8, .func, some [.nilfn], true⟩,
  ⟨1, 8, .func, some [.nilfn], true⟩,
  ⟨1, 8, .func, some [.nilfn], true⟩,
  ⟨1, 8, .func, some [.nilfn], true⟩,
  ⟨1, 8, .int .u64, some [.int .u64 0], true⟩,
  ⟨2, 16, .arr 2 3, some [.int .i64 0, .int .i64 0], true⟩,
  ⟨1, 8, .func, some [.nilfn], true⟩,
  ⟨1, 8, .func, some [.nilfn], true⟩,
  ⟨1, 8, .func, some [.nilfn], true⟩,
  ⟨1, 8, .ptr, some [.nilptr], true⟩,
  ⟨4, 32, .struct [(0, 57), (1, 57), (2, 57), (3, 5)], some [.nilptr, .nilptr, .nilptr, .int .u8 0], true⟩,
  ⟨4, 32, .struct [(0, 57), (1, 57), (2, 57), (3, 5)], some [.nilptr, .nilptr, .nilptr, .int .u8 0], true⟩,
  ⟨48, 384, .arr 12 59, some [.nilptr, .nilptr, .nilptr, .int .u8 0, .nilptr, .nilptr, .nilptr, .int .u8 0, .nilptr, .nilptr, .nilptr, .int .u8 0, .nilptr, .nilptr, .nilptr, .int .u8 0, .nilptr, .nilptr, .nilptr, .int .u8 0, .nilptr, .nilptr, .nilptr, .int .u8 0, .nilptr, .nilptr, .nilptr, .int .u8 0, .nilptr, .nilptr, .nilptr, .int .u8 0, .nilptr, .nilptr, .nilptr, .int .u8 0, .nilptr, .nilptr, .nilptr, .int .u8 0, .nilptr, .nilptr, .nilptr, .int .u8 0, .nilptr, .nilptr, .nilptr, .int .u8 0], true⟩,
  ⟨1, 8, .func, some [.nilfn], true⟩,
  ⟨1, 8, .ptr, some [.nilptr], true⟩,
  ⟨11, 11, .arr 11 5, some [.int .u8 0, .int .u8 0, .int .u8 0, .int .u8 0, .int .u8 0, .int .u8 0, .int .u8 0, .int .u8 0, .int .u8 0, .int .u8 0, .int .u8 0], true⟩,
  ⟨1, 8, .func, some [.nilfn], true⟩,
  ⟨1, 24, .slice 59, some [.nilslice], true⟩,
  ⟨16, 128, .arr 16 3, some [.int .i64 0, .int .i64 0, .int .i64 0, .int .i64 0, .int .i64 0, .int .i64 0, .int .i64 0, .int .i64 0, .int .i64 0, .int .i64 0, .int .i64 0, .int .i64 0, .int .i64 0, .int .i64 0, .int .i64 0, .int .i64 0], true⟩,
  ⟨1, 0, .other, some [.any], true⟩,
  ⟨1, 8, .func, some [.nilfn], true⟩,
  ⟨1, 8, .func, some [.nilfn], true⟩,
  ⟨1, 24, .slice 5, some [.nilslice], true⟩,
  ⟨1, 8, .func, some [.nilfn], true⟩,
  ⟨1, 0, .other, some [.any], true⟩,
  ⟨1, 8, .func, some [.nilfn], true⟩,
  ⟨1, 8, .ptr, some [.nilptr], true⟩,
  ⟨2, 32, .struct [(0, 74), (1, 70)], some [.nilptr, .nilslice], true⟩,
  ⟨2, 32, .struct [(0, 74), (1, 70)], some [.nilptr, .nilslice], true⟩,
  ⟨6, 6, .arr 3 22, some [.int .u8 0, .int .u8 0, .int .u8 0, .int .u8 0, .int .u8 0, .int .u8 0], true⟩,
  ⟨1, 16, .other, some [.any], false⟩,
  ⟨1, 16, .other, some [.any], false⟩,
  ⟨1, 0, .other, some [.any], true⟩,
  ⟨1, 8, .func, some [.nilfn], true⟩,
  ⟨3, 48, .arr 3 9, some [.str ⟨#[]⟩, .str ⟨#[]⟩, .str ⟨#[]⟩], true⟩,
  ⟨1, 8, .func, some [.nilfn], true⟩,
  ⟨1, 8, .func, some [.nilfn], true⟩,
  ⟨1, 8, .func, some [.nilfn], true⟩,
  ⟨1, 8, .func, some [.nilfn], true⟩,
  ⟨1, 8, .ptr, some [.nilptr], true⟩,
  ⟨1, 8, .func, some [.nilfn], true⟩,
  ⟨1, 8, .other, some [.nilptr], true⟩,
  ⟨1, 8, .func, some [.nilfn], true⟩,
  ⟨4, 40, .struct [(0, 17), (1, 17), (2, 17), (3, 9)], some [.nilptr, .nilptr, .nilptr, .str ⟨#[]⟩], false⟩,
  ⟨4, 40, .struct [(0, 17), (1, 17), (2, 17), (3, 9)], some [.nilptr, .nilptr, .nilptr, .str ⟨#[]⟩], false⟩,
  ⟨0, 0, .arr 0 16, some [], true⟩,
  ⟨0, 0, .struct [(0, 93)], some [], false⟩,
  ⟨0, 0, .struct [(0, 93)], some [], false⟩,
  ⟨1, 8, .func, some [.nilfn], true⟩,
  ⟨1, 4, .int .u32, some [.int .u32 0], true⟩,
  ⟨1, 1, .int .u8, some [.int .u8 0], true⟩,
  ⟨1, 1, .int .u8, some [.int .u8 0], true⟩,
  ⟨1, 8, .func, some [.nilfn], true⟩,
  ⟨1, 4, .int .i32, some [.int .i32 0], true⟩,
  ⟨1, 4, .int .i32, some [.int .i32 0], true⟩,
  ⟨11, 48, .struct [(0, 12), (1, 12), (2, 97), (3, 98), (4, 5), (5, 5), (6, 99), (7, 100), (8, 57), (9, 101), (10, 102)], some [.int .u64 0, .int .u64 0, .int .u32 0, .int .u8 0, .int .u8 0, .int .u8 0, .int .u8 0, .nilfn, .nilptr, .int .i32 0, .int .i32 0], false⟩,
  ⟨11, 48, .struct [(0, 12), (1, 12), (2, 97), (3, 98), (4, 5), (5, 5), (6, 99), (7, 100), (8, 57), (9, 101), (10, 102)], some [.int .u64 0, .int .u64 0, .int .u32 0, .int .u8 0, .int .u8 0, .int .u8 0, .int .u8 0, .nilfn, .nilptr, .int .i32 0, .int .i32 0], false⟩]

set_option maxRecDepth 100000 in
theorem tok : TOK Try.prog Tenv := tok_with rfl (by decide +kernel) (by decide +kernel)
end Go.Proofs
/-! Sb. -/
namespace Go.Proofs
open Go.RowKit

theorem sb_size : (Try.prog.info? 76).map (·.size) = some 2 := by kernel_rfl
theorem sb_lies : liesAt Try.prog Try.prog.depth 76 (2 / Try.prog.cellsOf 76) 0 76 1 = true := by kernel_rfl
theorem sb_byte : (Try.prog.info? 5).map (fun i => (i.zero, i.size, i.bytes)) = some (some (.int .u8 0), 1, 1) := by kernel_rfl

set_option maxHeartbeats 1000000 in
set_option maxRecDepth 100000 in
theorem sb_used (b : Nat) (w : World) (h0 : w.cell? ⟨b, 0, none⟩ = some (.pointer (some ⟨b, 0, none⟩))) :
    Calls Try.prog 46 #[.pointer (some ⟨b, 0, none⟩)] w fun e w' => e = .returned (.tuple #[]) ∧ w' = w := by
  obtain ⟨j, hj, _⟩ := Option.map_eq_some_iff.1 sb_size
  go_enter Try.func46, Try.ntmps46
  go_wp2
  rw [Lib.run_neq_ptr_same w _ Try.underlying74 hj]
  go_wp2
  go_end0
  exact ⟨rfl, rfl⟩

set_option maxHeartbeats 1000000 in
set_option maxRecDepth 100000 in
theorem sb_fresh (b : Nat) (w : World) (h0 : w.cell? ⟨b, 0, none⟩ = some (.pointer none)) (hsh : w.shape? b = some (76, 2)) (hfz : w.frozen? ⟨b, 0, none⟩ = false) :
    Calls Try.prog 46 #[.pointer (some ⟨b, 0, none⟩)] w fun e w' => e = .returned (.tuple #[]) ∧ w' = w.setCell ⟨b, 0, none⟩ (.pointer (some ⟨b, 0, none⟩)) := by
  obtain ⟨j, hj, hjs⟩ := Option.map_eq_some_iff.1 sb_size
  go_enter Try.func46, Try.ntmps46
  go_wp2
  rw [Lib.run_to_unsafe w ⟨b, 0, none⟩ Try.underlying74 Try.underlying89 hj (by rw [hjs]; decide) hsh (Nat.zero_lt_succ 1)]
  simp only [Result.andThen]
  rw [Oper.upon_value]
  go_wp2
  rw [run_callFunc_extern Try.func48 (by kernel_rfl) (by kernel_rfl) (by kernel_rfl) (e := Extern.AbiNoEscape.same) (by kernel_rfl)]
  rw [Lib.run_noEscape]
  simp only [Result.andThen]
  rw [Oper.upon_value]
  go_wp2
  rw [Lib.run_from_unsafe w ⟨b, 0, none⟩ Try.underlying89 Try.underlying74 hj hsh sb_lies]
  simp only [Result.andThen]
  rw [Oper.upon_value]
  go_wp2
  go_end0
  exact ⟨rfl, rfl⟩

/-- copyCheck, at whatever builder. -/
theorem sb_check (B b : Nat) (bs : List Value) (w : World) (h : Lib.IsBuilderF 76 5 B b bs w) :
    Calls Try.prog 46 #[.pointer (some ⟨b, 0, none⟩)] w fun e w' => e = .returned (.tuple #[]) ∧ (Lib.BuilderAtF 76 5 B b (.pointer (some ⟨b, 0, none⟩)) bs w' ∧ Below B w w') ∧ (∀ q, q ≠ b → w'.heap[q]? = w.heap[q]?) ∧ ∀ g, Go.E.SbBuf w' b g → Go.E.SbBuf w b g := by
  rcases h with h | h
  · refine (sb_fresh b w h.cell0 h.shape h.frozen0).mono ?_
    rintro e w' ⟨rfl, rfl⟩
    refine ⟨rfl, ⟨h.used _, (Below.refl B w).setCell (p := ⟨b, 0, none⟩) h.1 _⟩, fun q hq => Below.heap_setCell _ _ _ _ (fun e => hq e), ?_⟩
    rintro g ⟨p, v, t, fr, g1, g2⟩
    obtain ⟨_, v', k1, _⟩ := h
    refine ⟨_, v', _, _, k1, ?_⟩
    simp only [World.setCell, Array.getElem?_modify, k1] at g1
    simp at g1
    rw [g1.1.2]
    exact g2
  · refine (sb_used b w h.cell0).mono ?_
    rintro e w' ⟨rfl, rfl⟩
    exact ⟨rfl, ⟨h, Below.refl B _⟩, fun _ _ => rfl, fun _ h => h⟩

set_option maxHeartbeats 2000000 in
set_option maxRecDepth 100000 in
/-- WriteByte. -/
theorem sb_write (B b : Nat) (bs : List Value) (c : Int) (w : World) (h : Lib.IsBuilderF 76 5 B b bs w) (hlen : bs.length + 1 ≤ 140737488355328) (hBw : B ≤ w.heap.size) :
    Calls Try.prog 47 #[.pointer (some ⟨b, 0, none⟩), .int .u8 c] w fun e w' => e = .returned .nilIface ∧ (Lib.IsBuilderF 76 5 B b (bs ++ [.int .u8 c]) w' ∧ Below B w w') := by
  obtain ⟨i0, hi, hz0, hz1, hz2⟩ := info_parts sb_byte
  go_enter Try.func47, Try.ntmps47
  go_wp2_with (go_at_call 46; refine (sb_check B b bs _ h).mono ?_)
  rintro e w1 ⟨rfl, ⟨h1, hb1⟩, ho, hbf⟩
  obtain ⟨hB, v, hbk, hown, hne⟩ := h1
  have c0 : w1.cell? ⟨b, 0, none⟩ = some (.pointer (some ⟨b, 0, none⟩)) := by rw [Lib.cell_of_heap hbk]; rfl
  have c1 : w1.cell? ⟨b, 1, none⟩ = some v := by rw [Lib.cell_of_heap hbk]; rfl
  go_wp2_with (at_builtin; refine wpList_append_ownF _ rfl _ _ 70 rfl B 5 i0 (.int .u8 0) 1 1 Try.underlying70 hi hz0 hz1 hz2 rfl (by decide) _ _ _ rfl (hown.alloc _) ⟨w1.heap.size, 0, none⟩ 1 1 [.int .u8 c] rfl rfl ?c1 ?c2 ?c3 ?c4 ?c5 ?_)
  case c1 =>
    intro j u hj
    match j, hj with
    | 0, hj => simp at hj; subst hj; simp [Addr.add]
  case c2 => intro u hu; simp at hu; subst hu; rfl
  case c3 => unfold maxLen; omega
  case c4 => omega
  case c5 => have := hb1.size; simp; omega
  intro v' w2 hown' hgrow _
  have hlt : b < w1.heap.size := by
    rcases Nat.lt_or_ge b w1.heap.size with h' | h'
    · exact h'
    · simp [Array.getElem?_eq_none h'] at hbk
  have hb2 : w2.heap[b]? = some (.cells #[.pointer (some ⟨b, 0, none⟩), v] 76 (0, 0)) := by
    rw [hgrow.block b (by simp; omega) (fun e => hne e.symm), Lib.alloc_old w1 _ b hlt]
    exact hbk
  have d0 : w2.cell? ⟨b, 0, none⟩ = some (.pointer (some ⟨b, 0, none⟩)) := by rw [Lib.cell_of_heap hb2]; rfl
  have d1 : w2.cell? ⟨b, 1, none⟩ = some v := by rw [Lib.cell_of_heap hb2]; rfl
  have f1 : w2.frozen? ⟨b, 1, none⟩ = false := Lib.frozen_of_heap hb2 1
  obtain ⟨g, cap, rfl⟩ : ∃ g cap, v' = .slice (some ⟨g, 0, none⟩) (bs.length + 1) cap := by
    rcases hown'.2 with ⟨_, h0⟩ | ⟨g, cap, cur, fz, hv, _⟩
    · omega
    · exact ⟨g, cap, hv⟩
  go_wp2
  go_ret
  refine ⟨rfl, .inr ?_, ?_⟩
  · exact Lib.BuilderAtF.put (T := 76) (e := 5) hB hb2 (bs' := bs ++ [.int .u8 c]) (by simpa using hown') (by decide)
  · exact ((hb1.alloc (by have := hb1.size; omega) _).grown hgrow (by have := hb1.size; simp; omega) (fun k hk => (hown.lt k hk).1)).setCell (p := ⟨b, 1, none⟩) hB _
section
variable {P : Program} (w : World)
/-- Where the bytes lie behind an append of a string: where they lay, or anew. -/
theorem append_where (base : Nat) (t u ty e : TypeId) (i : TypeInfo) (ht : P.underlying t = some (.slice e)) (hu : P.underlying u = some .string) (hi : P.info? e = some i) (hz : i.zero = some (.int .u8 0))
    (hsize : i.size = 1) (hby : i.bytes = 1) (v : Value) (n : Nat) (xs : List Value) (hown : w.ownsRowF base e 1 v n xs) (s : ByteArray) (h63 : n + s.size ≤ maxLen) (hbytes : n + s.size ≤ 140737488355328) :
    ∀ v' w', (Builtin.append_ #[t, u] ty #[v, .string s]).run P w = .ok v' w' → ∀ g, v'.ownBlock = some g → v.ownBlock = some g ∨ w.heap.size ≤ g := by
  intro v' w' hr g hg
  have hsmall : n + s.size ≤ 9223372036854775807 := by simp only [maxLen] at h63; omega
  rcases hown.2 with ⟨rfl, rfl⟩ | ⟨q, cap, cur, fz, rfl, _, hq, hfz, hnc, _, hcs, _⟩
  · obtain ⟨v2, w2, h1, h2, _⟩ := Lib.run_append_own_string (P := P) w w.heap.size t u ty e i ht hu hi hz hsize hby (.slice none 0 0) 0 xs ⟨hown.1, .inl ⟨rfl, rfl⟩⟩ s h63 hbytes (Nat.le_refl _)
    rw [hr] at h1
    cases h1
    rcases h2.2 with ⟨e1, _⟩ | ⟨g', _, _, e1, e2, _⟩
    · rw [e1] at hg; cases hg
    · rw [e1] at hg; cases hg; exact .inr e2
  · have hxl : xs.length = n := by simpa using hown.1
    by_cases hroom : n + s.size ≤ cap
    · have hcs' : cur.size = cap := by simpa using hcs
      rw [Lib.run_append_room_stringF (P := P) w t u ty e i ht hu hi hsize q n cap cur fz hq (by simpa using hfz) s hroom (by omega)] at hr
      cases hr
      exact .inl hg
    · have holds : ∀ j u, xs[j]? = some u → w.cell? ((⟨q, 0, none⟩ : Addr).add j) = some u := hown.cells (g := q) rfl
      rw [Lib.run_append_grow_string (P := P) w t u ty e i (.int .u8 0) ht hu hi hz ⟨q, 0, none⟩ n cap xs (by rw [hsize]; simpa using hxl) holds s (by omega) (by omega) (by rw [hby]; exact growslice_fits (by omega) (by omega))] at hr
      cases hr
      cases hg
      exact .inr (Nat.le_refl _)
theorem wp_append_where {ops : Array Oper} {rest : List Oper} {o : Oper} {a : Act} {Q : Exit → Act → World → Prop} (hgd : o.guard = none) (sl x : Operand) (t u : TypeId)
    (ho : o.op = .call { callee := .builtin .append, args := #[sl, x], argTypes := #[t, u] })
    (base : Nat) (e : TypeId) (i : TypeInfo) (ht : P.underlying t = some (.slice e)) (hu : P.underlying u = some .string) (hi : P.info? e = some i) (hz : i.zero = some (.int .u8 0))
    (hsize : i.size = 1) (hby : i.bytes = 1) (v : Value) (n : Nat) (xs : List Value) (hs : a.eval sl = v) (hown : w.ownsRowF base e 1 v n xs) (s : ByteArray) (hx : a.eval x = .string s)
    (h63 : n + s.size ≤ maxLen) (hbytes : n + s.size ≤ 140737488355328) (hbase : base ≤ w.heap.size)
    (h : ∀ v' w', w'.ownsRowF base e 1 v' (n + s.size) (xs ++ Lib.strCells s) → w.grownBy w' v.ownBlock → (∀ g, v'.ownBlock = some g → v.ownBlock = some g ∨ w.heap.size ≤ g) → wpList P ops Q rest (a.put o.dst v') w') : wpList P ops Q (o :: rest) a w := by
  refine wpList_plain hgd fun K hK => ?_
  obtain ⟨v', w', hr, h2, h3, _⟩ := Lib.run_append_own_stringF (P := P) w base t u o.type e i ht hu hi hz hsize hby v n xs hown s h63 hbytes hbase
  have h4 := append_where (P := P) w base t u o.type e i ht hu hi hz hsize hby v n xs hown s h63 hbytes v' w' hr
  unfold Oper.wp execOp
  simp only [ho, resolve, invoke, builtin, Sem.run_bind, Sem.run_pure, Result.andThen_ok, List.map_toArray, List.map_cons, List.map_nil, hs, hx, hr]
  exact hK _ _ (h v' w' h2 h3 h4)
end

set_option maxHeartbeats 2000000 in
set_option maxRecDepth 100000 in
/-- WriteString. -/
theorem sb_writeS (B b : Nat) (bs : List Value) (s : ByteArray) (w : World) (h : Lib.IsBuilderF 76 5 B b bs w) (hlen : bs.length + s.size ≤ 140737488355328) (hBw : B ≤ w.heap.size) :
    Calls Try.prog 41 #[.pointer (some ⟨b, 0, none⟩), .string s] w fun e w' => e = .returned (.tuple #[.int .i64 s.size, .nilIface]) ∧ (Lib.IsBuilderF 76 5 B b (bs ++ Lib.strCells s) w' ∧ Below B w w' ∧ (∀ q, q < w.heap.size → q ≠ b → ¬ Go.E.SbBuf w b q → w'.heap[q]? = w.heap[q]?) ∧ ∀ g, Go.E.SbBuf w' b g → Go.E.SbBuf w b g ∨ w.heap.size ≤ g) := by
  obtain ⟨i0, hi, hz0, hz1, hz2⟩ := info_parts sb_byte
  go_enter Try.func41, Try.ntmps41
  go_wp2_with (go_at_call 46; refine (sb_check B b bs _ h).mono ?_)
  rintro e w1 ⟨rfl, ⟨h1, hb1⟩, ho, hbf⟩
  obtain ⟨hB, v, hbk, hown, hne⟩ := h1
  have c0 : w1.cell? ⟨b, 0, none⟩ = some (.pointer (some ⟨b, 0, none⟩)) := by rw [Lib.cell_of_heap hbk]; rfl
  have c1 : w1.cell? ⟨b, 1, none⟩ = some v := by rw [Lib.cell_of_heap hbk]; rfl
  go_wp2_with (at_builtin; refine wp_append_where _ rfl _ _ 70 9 rfl B 5 i0 Try.underlying70 Try.underlying9 hi hz0 hz1 hz2 _ _ _ rfl hown s rfl ?c3 ?c4 ?c5 ?_)
  case c3 => unfold maxLen; omega
  case c4 => omega
  case c5 => have := hb1.size; omega
  intro v' w2 hown' hgrow hwh
  have hlt : b < w1.heap.size := by
    rcases Nat.lt_or_ge b w1.heap.size with h' | h'
    · exact h'
    · simp [Array.getElem?_eq_none h'] at hbk
  have hb2 : w2.heap[b]? = some (.cells #[.pointer (some ⟨b, 0, none⟩), v] 76 (0, 0)) := by
    rw [hgrow.block b hlt (fun e => hne e.symm)]
    exact hbk
  have d0 : w2.cell? ⟨b, 0, none⟩ = some (.pointer (some ⟨b, 0, none⟩)) := by rw [Lib.cell_of_heap hb2]; rfl
  have d1 : w2.cell? ⟨b, 1, none⟩ = some v := by rw [Lib.cell_of_heap hb2]; rfl
  have f1 : w2.frozen? ⟨b, 1, none⟩ = false := Lib.frozen_of_heap hb2 1
  obtain ⟨ao, n', cap, rfl⟩ : ∃ ao n' cap, v' = .slice ao n' cap := by
    rcases hown'.2 with ⟨hv, _⟩ | ⟨g, cap, cur, fz, hv, _⟩
    · exact ⟨_, _, _, hv⟩
    · exact ⟨_, _, _, hv⟩
  go_wp2
  go_ret2
  refine ⟨rfl, .inr ?_, ?_, ?_, ?_⟩
  · exact Lib.BuilderAtF.put (T := 76) (e := 5) hB hb2 (bs' := bs ++ Lib.strCells s) (by simpa [Lib.strCells_length] using hown') (by decide)
  · exact (hb1.grown hgrow (by have := hb1.size; omega) (fun k hk => (hown.lt k hk).1)).setCell (p := ⟨b, 1, none⟩) hB _
  · intro q hq hqb hns
    rw [Below.heap_setCell _ _ _ _ (fun e => hqb e), hgrow.block q (by have := hb1.size; omega) (fun e => hns (hbf q ⟨_, _, _, _, hbk, e.symm⟩)), ho q hqb]
  · intro g hg
    obtain ⟨p, u, t, fr, g1, g2⟩ := hg
    simp only [World.setCell, Array.getElem?_modify, hb2] at g1
    simp at g1
    have hu : u = .slice ao n' cap := g1.1.2.symm
    rw [hu] at g2
    rcases hwh g g2 with h | h
    · exact .inl (hbf g ⟨_, _, _, _, hbk, h⟩)
    · exact .inr (by have := hb1.size; omega)
end Go.Proofs
/-! Shelf. -/
namespace Go.Proofs
open Go.Shelf
def Try.lays169_ren : Go.Shelf.Ren := ⟨fun | 169 => 43 | n => n, fun | 70 => 74 | 9 => 9 | 0 => 0 | 72 => 76 | 37 => 70 | 127 => 57 | 3 => 3 | 5 => 5 | n => n, fun | n => n⟩
theorem Try.lays169 : Go.Proofs.Lays.n169 Try.prog Try.lays169_ren := {
  mixed := by kernel_rfl
  f169 := Try.func43.trans (congrArg some (by kernel_rfl))
  t0 := Try.underlying0
  a0 := Try.isAgg0
  z0 := Try.sizeOf0
  v0 := Try.zeroValue0
  t3 := Try.underlying3
  a3 := Try.isAgg3
  z3 := Try.sizeOf3
  v3 := Try.zeroValue3
  t9 := Try.underlying9
  a9 := Try.isAgg9
  z9 := Try.sizeOf9
  v9 := Try.zeroValue9
  t37 := Try.underlying70
  a37 := Try.isAgg70
  z37 := Try.sizeOf70
  v37 := Try.zeroValue70
  t70 := Try.underlying74
  a70 := Try.isAgg74
  z70 := Try.sizeOf74
  v70 := Try.zeroValue74
  t72 := Try.underlying76
  a72 := Try.isAgg76
  z72 := Try.sizeOf76
  v72 := Try.zeroValue76
  t127 := Try.underlying57
  a127 := Try.isAgg57
  z127 := Try.sizeOf57
  v127 := Try.zeroValue57 }
theorem Try.Builder_Extra_169 : Builder.Extra Try.prog Try.lays169_ren := {
  sizeBuilder := by kernel_rfl
  liesBuilder := by kernel_rfl
  t5 := Try.underlying5
  a5 := Try.isAgg5
  z5 := Try.sizeOf5
  v5 := Try.zeroValue5
  infoByte := by kernel_rfl
  cellsByte := by kernel_rfl
  sizeByte := by kernel_rfl
  neB5 := by decide }
open Go.RowKit in
/-- (*strings.Builder).String: "String returns the accumulated string.": WHATEVER THE BUILDER HOLDS; THE FORM '_k': OVER 'Lib.IsBuilderF' (a builder that 'String()' may have read), AND WITH THE FRAME THAT REACHES ABOVE THE BUILDER: 'Lib.OthersKept': every block that is not b and is no row of uint8's stands as it stood: the iterator of a range among them. (LAID: no walk: one application.) -/
theorem Try.Builder_String_any_k (B b : Nat) (l : List UInt8) (w : World) (h : Lib.IsBuilderF 76 5 B b (Lib.byteCells l) w) (hBw : B ≤ w.heap.size) :
    Calls Try.prog 43 #[.pointer (some ⟨b, 0, none⟩)] w fun e w' => e = .returned (.string ⟨l.toArray⟩) ∧ (Lib.IsBuilderF 76 5 B b (Lib.byteCells l) w' ∧ Below B w w' ∧ Lib.OthersKept 5 (some b) w w') := Any.Builder_String_any_k Try.lays169 Try.Builder_Extra_169 B b l w h hBw
end Go.Proofs
/-! Fg. -/
namespace Go.Proofs
open Go.RowKit

/-- The signs of the digits. -/
def figB : List UInt8 := [48, 49, 50, 51, 52, 53, 54, 55, 56, 57, 95]
def figsOf (l : List Int) : List UInt8 := l.map fun k => figB.getD k.toNat 0
theorem fig_at : ∀ j : Fin 11, ((⟨#[48, 49, 50, 51, 52, 53, 54, 55, 56, 57, 95]⟩ : ByteArray)[j.1]'j.2) = figB.getD j.1 0 := by decide

set_option maxHeartbeats 4000000 in
set_option maxRecDepth 1000000 in
theorem figures_walk (l : List Int) (n cap : Nat) (A : Option Addr) (w : World) (hl : l.length = n) (hn : n ≤ 1099511627776) (hr : ∀ x ∈ l, 0 ≤ x ∧ x < 11)
    (hA : n = 0 ∨ ∃ r o, A = some ⟨r, o, none⟩ ∧ r < w.heap.size ∧ ∀ i, i < n → w.cell? ⟨r, o + i, none⟩ = some (.int .u8 (l.getD i 0))) :
    Calls Try.prog 42 #[.slice A n cap] w fun e w' => e = .returned (.string ⟨(figsOf l).toArray⟩) ∧ Below w.heap.size w w' := by
  go_enter Try.func42, Try.ntmps42
  go_wp2
  go_loopw [8] (fun i wr => ∃ (k : Nat), k ≤ n ∧ i = .int .i64 k ∧ Lib.IsBuilderF 76 5 w.heap.size w.heap.size (Lib.byteCells (figsOf (l.take k))) wr ∧ Below w.heap.size w wr) (fun i _ => n - (RowKit.intOf i).toNat)
  case atStart =>
    refine ⟨0, by omega, rfl, ?_, (Below.refl _ w).alloc (Nat.le_refl _) _⟩
    exact Lib.IsBuilderF.of (Lib.fresh_isBuilder 76 5 w)
  case round =>
    obtain ⟨k, hk, rfl, hI, hbw⟩ := hrel
    by_cases hkn : k < n
    · obtain ⟨r, o, rfl, hrw, hc⟩ := hA.resolve_left (by omega)
      have hx := hr (l.getD k 0) (by rw [List.getD_eq_getElem?_getD, List.getElem?_eq_getElem (by omega)]; exact List.getElem_mem _)
      have hcell : wr.cell? ⟨r, o + k, none⟩ = some (.int .u8 (l.getD k 0)) := by rw [hbw.cell (p := ⟨r, o + k, none⟩) hrw]; exact hc k hkn
      have htk : l.take (k + 1) = l.take k ++ [l.getD k 0] := by
        rw [List.take_add_one, List.getD_eq_getElem?_getD, List.getElem?_eq_getElem (by omega)]; simp
      have hlen : (Lib.byteCells (figsOf (l.take k))).length + 1 ≤ 140737488355328 := by
        rw [Lib.byteCells_length]; simp [figsOf]; omega
      generalize l.getD k 0 = x at *
      go_wp2_with (first
        | (go_at_call 47; refine (sb_write w.heap.size w.heap.size _ _ _ hI hlen (by have := hbw.size; omega)).mono ?_)
        | go_in)
      all_goals try (exfalso; omega)
      rintro e W1 ⟨rfl, hI1, b1⟩
      have hb : ((⟨#[48, 49, 50, 51, 52, 53, 54, 55, 56, 57, 95]⟩ : ByteArray)[x.toNat]'(by show x.toNat < 11; omega)) = figB.getD (x.toNat) 0 := fig_at ⟨x.toNat, by omega⟩
      rw [hb] at hI1
      go_wp2
      go_roundw
      case rel =>
        refine ⟨k + 1, by omega, by simp, ?_, hbw.trans b1⟩
        rw [htk, figsOf, List.map_append, Lib.byteCells_append]
        exact hI1
      case measure => simp [RowKit.intOf]; omega
    · have hkn' : k = n := by omega
      subst hkn'
      rw [List.take_of_length_le (by omega)] at hI
      go_wp2_with (go_at_call 43; refine (Try.Builder_String_any_k w.heap.size w.heap.size (figsOf l) _ hI (by have := hbw.size; omega)).mono ?_)
      rintro e W1 ⟨rfl, _, b1, _⟩
      go_wp2
      go_ret
      exact ⟨rfl, hbw.trans b1⟩
end Go.Proofs
/-! Aa. -/
namespace Go.Proofs
open Go.E
set_option maxRecDepth 8000
theorem env : Env Try.prog Tenv := ⟨tok, by decide +kernel⟩

theorem wi {x : Int} (h0 : -9223372036854775808 ≤ x) (h1 : x ≤ 9223372036854775807) : IntKind.i64.wrap x = x := by
  rw [IntKind.wrap_i64]; omega
theorem wu16 {x : Int} (h0 : 0 ≤ x) (h1 : x < 65536) : IntKind.u16.wrap x = x := by
  rw [IntKind.wrap_u16]; omega
theorem wu8 {x : Int} (h0 : 0 ≤ x) (h1 : x < 256) : IntKind.u8.wrap x = x := by
  rw [IntKind.wrap_u8]; omega
theorem branch_t' {b : Bool} {T E : Prop} (hb : b = true) (h : T) : branch b T E := branch_intro (fun _ => h) (fun h0 => by rw [hb] at h0; cases h0)
theorem branch_f' {b : Bool} {T E : Prop} (hb : b = false) (h : E) : branch b T E := branch_intro (fun h0 => by rw [hb] at h0; cases h0) (fun _ => h)
theorem eqv_of_eq {v w : AVal} (h : v = w) : Eqv v w := by subst h; exact .up (.up (.refl _))

/-- A display: 24 cells of uint8, two of uint16. -/
abbrev dcells (d : Nat → Int) : List AVal := [.int .u8 (d 0), .int .u8 (d 1), .int .u8 (d 2), .int .u8 (d 3), .int .u8 (d 4), .int .u8 (d 5), .int .u8 (d 6), .int .u8 (d 7), .int .u8 (d 8), .int .u8 (d 9), .int .u8 (d 10), .int .u8 (d 11), .int .u8 (d 12), .int .u8 (d 13), .int .u8 (d 14), .int .u8 (d 15), .int .u8 (d 16), .int .u8 (d 17), .int .u8 (d 18), .int .u8 (d 19), .int .u8 (d 20), .int .u8 (d 21), .int .u8 (d 22), .int .u8 (d 23), .int .u16 (d 24), .int .u16 (d 25)]
abbrev dispA (d : Nat → Int) : AVal := .agg [.int .u8 (d 0), .int .u8 (d 1), .int .u8 (d 2), .int .u8 (d 3), .int .u8 (d 4), .int .u8 (d 5), .int .u8 (d 6), .int .u8 (d 7), .int .u8 (d 8), .int .u8 (d 9), .int .u8 (d 10), .int .u8 (d 11), .int .u8 (d 12), .int .u8 (d 13), .int .u8 (d 14), .int .u8 (d 15), .int .u8 (d 16), .int .u8 (d 17), .int .u8 (d 18), .int .u8 (d 19), .int .u8 (d 20), .int .u8 (d 21), .int .u8 (d 22), .int .u8 (d 23), .int .u16 (d 24), .int .u16 (d 25)]
/-- The table of rows of the display in block b, the spare digit in block s. -/
abbrev tabL (b s : Nat) : List AVal := [.nilptr, .nilptr, .nilptr, .int .u8 0, .ptr ⟨b, 0, 22⟩, .ptr ⟨b, 0, 23⟩, .ptr ⟨b, 0, 18⟩, .int .u8 2, .ptr ⟨b, 0, 20⟩, .ptr ⟨b, 0, 21⟩, .ptr ⟨b, 0, 18⟩, .int .u8 1, .ptr ⟨b, 0, 17⟩, .ptr ⟨b, 0, 19⟩, .nilptr, .int .u8 0, .ptr ⟨b, 0, 15⟩, .ptr ⟨b, 0, 16⟩, .ptr ⟨b, 0, 12⟩, .int .u8 2, .ptr ⟨b, 0, 13⟩, .ptr ⟨b, 0, 14⟩, .ptr ⟨b, 0, 12⟩, .int .u8 1, .ptr ⟨b, 0, 10⟩, .ptr ⟨b, 0, 11⟩, .ptr ⟨b, 0, 6⟩, .int .u8 2, .ptr ⟨b, 0, 8⟩, .ptr ⟨b, 0, 9⟩, .ptr ⟨b, 0, 6⟩, .int .u8 1, .ptr ⟨s, 0, 0⟩, .ptr ⟨b, 0, 7⟩, .nilptr, .int .u8 0, .ptr ⟨b, 0, 4⟩, .ptr ⟨b, 0, 5⟩, .nilptr, .int .u8 0, .ptr ⟨b, 0, 2⟩, .ptr ⟨b, 0, 3⟩, .nilptr, .int .u8 0, .ptr ⟨b, 0, 0⟩, .ptr ⟨b, 0, 1⟩, .nilptr, .int .u8 0]
abbrev tabA (b s : Nat) : AVal := .agg (tabL b s)
theorem table_c {d : Nat → Int} {x : Int} : callN Try.prog 35 [.ptr ⟨0, 0, 0⟩, .ptr ⟨1, 0, 0⟩] [.cells (dcells d), .cells [.int .u8 x]] fun v H' => v = tabA 0 1 ∧ H' = [.cells (dcells d), .cells [.int .u8 x], .cells (tabL 0 1)] := by
  refine callN_def env (fn := Try.f35) 2 rfl rfl (by decide) ?_
  refine draw_tree (picks [0, 1, 2, 3, 4, 5, 6, 7, 8, 9, 10, 11, 12, 13, 14] .done) (by decide +kernel) ?_
  repeat refine ndD ?_
  refine draw_tree (picks [0, 1, 2, 3, 4, 5, 6, 7, 8, 9, 10, 11, 12, 13, 14, 15, 16, 17, 18, 19, 20, 21, 22, 23, 24, 25, 26, 27, 28, 29, 30, 31, 32, 33, 34, 35, 36, 37, 38, 39, 40, 41, 42, 43, 44, 45, 46, 47, 48, 49, 50, 51, 52, 53, 54, 55, 56, 57, 58, 59, 60, 61, 62, 63, 64, 65, 66, 67, 68, 69, 70, 71, 72, 73, 74, 75, 76, 77, 78, 79, 80, 81, 82, 83, 84, 85, 86, 87, 88, 89, 90, 91, 92, 93, 94, 95, 96, 97, 98, 99, 100, 101, 102, 103, 104, 105, 106, 107, 108, 109, 110, 111, 112, 113, 114, 115] .done) (by decide +kernel) ?_
  repeat refine ndD ?_
  exact ⟨rfl, rfl⟩
/-! The digits' codes. -/
def codeV (n : Nat) : Int := match n with
  | 0 => 21 | 1 => 3 | 2 => 25 | 3 => 27 | 4 => 15 | 5 => 30 | 6 => 28 | 7 => 19 | 8 => 29 | 9 => 31 | _ => 0
theorem codes_c : callP Try.prog 36 [] (· = .agg [.int .u8 21, .int .u8 3, .int .u8 25, .int .u8 27, .int .u8 15, .int .u8 30, .int .u8 28, .int .u8 19, .int .u8 29, .int .u8 31, .int .u8 0]) := by
  refine callE_def env (fn := Try.f36) rfl (by decide) rfl ?_
  show Eqv _ _
  exact .up (.up (.refl _))
theorem code_c {n : Nat} (hn : n < 11) : callP Try.prog 16 [.int .u8 n] (· = .tuple [.int .u8 (codeV n), .int .i64 0]) := by
  refine callE_def env (fn := Try.f16) rfl (by decide) rfl ?_
  match n, hn with
  | 0, _ =>
    refine branch_f' (by decide) ?_
    refine callT_E codes_c rfl ?_
    repeat refine ndD ?_
    show Eqv _ _
    exact .up (.up (.refl _))
  | 1, _ =>
    refine branch_f' (by decide) ?_
    refine callT_E codes_c rfl ?_
    repeat refine ndD ?_
    show Eqv _ _
    exact .up (.up (.refl _))
  | 2, _ =>
    refine branch_f' (by decide) ?_
    refine callT_E codes_c rfl ?_
    repeat refine ndD ?_
    show Eqv _ _
    exact .up (.up (.refl _))
  | 3, _ =>
    refine branch_f' (by decide) ?_
    refine callT_E codes_c rfl ?_
    repeat refine ndD ?_
    show Eqv _ _
    exact .up (.up (.refl _))
  | 4, _ =>
    refine branch_f' (by decide) ?_
    refine callT_E codes_c rfl ?_
    repeat refine ndD ?_
    show Eqv _ _
    exact .up (.up (.refl _))
  | 5, _ =>
    refine branch_f' (by decide) ?_
    refine callT_E codes_c rfl ?_
    repeat refine ndD ?_
    show Eqv _ _
    exact .up (.up (.refl _))
  | 6, _ =>
    refine branch_f' (by decide) ?_
    refine callT_E codes_c rfl ?_
    repeat refine ndD ?_
    show Eqv _ _
    exact .up (.up (.refl _))
  | 7, _ =>
    refine branch_f' (by decide) ?_
    refine callT_E codes_c rfl ?_
    repeat refine ndD ?_
    show Eqv _ _
    exact .up (.up (.refl _))
  | 8, _ =>
    refine branch_f' (by decide) ?_
    refine callT_E codes_c rfl ?_
    repeat refine ndD ?_
    show Eqv _ _
    exact .up (.up (.refl _))
  | 9, _ =>
    refine branch_f' (by decide) ?_
    refine callT_E codes_c rfl ?_
    repeat refine ndD ?_
    show Eqv _ _
    exact .up (.up (.refl _))
  | 10, _ =>
    refine branch_f' (by decide) ?_
    refine callT_E codes_c rfl ?_
    repeat refine ndD ?_
    show Eqv _ _
    exact .up (.up (.refl _))
theorem code_bad {x : Int} (hx : 11 ≤ x) : callP Try.prog 16 [.int .u8 x] (· = .tuple [.int .u8 0, .int .i64 3]) := by
  refine callE_def env (fn := Try.f16) rfl (by decide) rfl ?_
  refine branch_t' (decide_eq_true hx) ?_
  show Eqv _ _
  exact .up (.up (.refl _))
/-- The digit with that code: 11 if there is none. -/
def digN (c : Int) : Nat := if c = 21 then 0 else if c = 3 then 1 else if c = 25 then 2 else if c = 27 then 3 else if c = 15 then 4 else if c = 30 then 5 else if c = 28 then 6 else if c = 19 then 7 else if c = 29 then 8 else if c = 31 then 9 else if c = 0 then 10 else 11
def digR (c : Int) : AVal := match digN c with
  | 11 => .tuple [.int .u8 0, .int .i64 2]
  | n => .tuple [.int .u8 n, .int .i64 0]
def digV (c : Int) : Int := if digN c = 11 then 0 else digN c
def digE (c : Int) : Int := if digN c = 11 then 2 else 0
theorem digN_none {c : Int} (h : ∀ j, j < 11 → codeV j ≠ c) : digN c = 11 := by
  have h0 := h 0 (by decide); have h1 := h 1 (by decide); have h2 := h 2 (by decide); have h3 := h 3 (by decide); have h4 := h 4 (by decide); have h5 := h 5 (by decide)
  have h6 := h 6 (by decide); have h7 := h 7 (by decide); have h8 := h 8 (by decide); have h9 := h 9 (by decide); have h10 := h 10 (by decide)
  simp only [codeV] at h0 h1 h2 h3 h4 h5 h6 h7 h8 h9 h10
  unfold digN
  rw [if_neg (Ne.symm h0), if_neg (Ne.symm h1), if_neg (Ne.symm h2), if_neg (Ne.symm h3), if_neg (Ne.symm h4), if_neg (Ne.symm h5), if_neg (Ne.symm h6), if_neg (Ne.symm h7), if_neg (Ne.symm h8), if_neg (Ne.symm h9), if_neg (Ne.symm h10)]
theorem digN_code {n : Nat} (hn : n < 11) : digN (codeV n) = n := by
  match n, hn with
  | 0, _ => rfl
  | 1, _ => rfl
  | 2, _ => rfl
  | 3, _ => rfl
  | 4, _ => rfl
  | 5, _ => rfl
  | 6, _ => rfl
  | 7, _ => rfl
  | 8, _ => rfl
  | 9, _ => rfl
  | 10, _ => rfl
theorem digit_c (c : Int) : callP Try.prog 15 [.int .u8 c] (· = .tuple [.int .u8 (digV c), .int .i64 (digE c)]) := by
  refine callE_def env (fn := Try.f15) rfl (by decide) rfl ?_
  refine callT_E codes_c rfl ?_
  refine loop_weak (fun i : Nat => slots 18 [(0, .int .u8 c), (2, .int .u8 0), (3, .int .i64 0), (4, .ptr ⟨0, 0, 0⟩), (7, .int .i64 i)])
    (fun _ => [.cells [.int .u8 21, .int .u8 3, .int .u8 25, .int .u8 27, .int .u8 15, .int .u8 30, .int .u8 28, .int .u8 19, .int .u8 29, .int .u8 31, .int .u8 0]])
    (fun i => i ≤ 11 ∧ ∀ j, j < i → codeV j ≠ c) (fun i => 11 - i) 0 ⟨Nat.zero_le _, fun j hj => by omega⟩ (weak_keep (keep 18 [0, 2, 3, 4, 7]) [0] rfl rfl rfl) ?_
  intro i hi
  match i, hi with
  | 0, ⟨_, hno⟩ =>
    refine branch_true ?_
    repeat refine ndD ?_
    apply branch_intro <;> intro h
    · have hc : codeV 0 = c := of_decide_eq_true h
      subst hc
      show Eqv _ _
      exact .up (.up (.refl _))
    · have hc : codeV 0 ≠ c := of_decide_eq_false h
      refine ⟨1, ⟨by decide, fun j hj => ?_⟩, by decide, weak_keep (keep 18 [0, 2, 3, 4, 7]) [0] rfl rfl rfl⟩
      by_cases hj2 : j < 0
      · exact hno j hj2
      · have : j = 0 := by omega
        subst this
        exact hc
  | 1, ⟨_, hno⟩ =>
    refine branch_true ?_
    repeat refine ndD ?_
    apply branch_intro <;> intro h
    · have hc : codeV 1 = c := of_decide_eq_true h
      subst hc
      show Eqv _ _
      exact .up (.up (.refl _))
    · have hc : codeV 1 ≠ c := of_decide_eq_false h
      refine ⟨2, ⟨by decide, fun j hj => ?_⟩, by decide, weak_keep (keep 18 [0, 2, 3, 4, 7]) [0] rfl rfl rfl⟩
      by_cases hj2 : j < 1
      · exact hno j hj2
      · have : j = 1 := by omega
        subst this
        exact hc
  | 2, ⟨_, hno⟩ =>
    refine branch_true ?_
    repeat refine ndD ?_
    apply branch_intro <;> intro h
    · have hc : codeV 2 = c := of_decide_eq_true h
      subst hc
      show Eqv _ _
      exact .up (.up (.refl _))
    · have hc : codeV 2 ≠ c := of_decide_eq_false h
      refine ⟨3, ⟨by decide, fun j hj => ?_⟩, by decide, weak_keep (keep 18 [0, 2, 3, 4, 7]) [0] rfl rfl rfl⟩
      by_cases hj2 : j < 2
      · exact hno j hj2
      · have : j = 2 := by omega
        subst this
        exact hc
  | 3, ⟨_, hno⟩ =>
    refine branch_true ?_
    repeat refine ndD ?_
    apply branch_intro <;> intro h
    · have hc : codeV 3 = c := of_decide_eq_true h
      subst hc
      show Eqv _ _
      exact .up (.up (.refl _))
    · have hc : codeV 3 ≠ c := of_decide_eq_false h
      refine ⟨4, ⟨by decide, fun j hj => ?_⟩, by decide, weak_keep (keep 18 [0, 2, 3, 4, 7]) [0] rfl rfl rfl⟩
      by_cases hj2 : j < 3
      · exact hno j hj2
      · have : j = 3 := by omega
        subst this
        exact hc
  | 4, ⟨_, hno⟩ =>
    refine branch_true ?_
    repeat refine ndD ?_
    apply branch_intro <;> intro h
    · have hc : codeV 4 = c := of_decide_eq_true h
      subst hc
      show Eqv _ _
      exact .up (.up (.refl _))
    · have hc : codeV 4 ≠ c := of_decide_eq_false h
      refine ⟨5, ⟨by decide, fun j hj => ?_⟩, by decide, weak_keep (keep 18 [0, 2, 3, 4, 7]) [0] rfl rfl rfl⟩
      by_cases hj2 : j < 4
      · exact hno j hj2
      · have : j = 4 := by omega
        subst this
        exact hc
  | 5, ⟨_, hno⟩ =>
    refine branch_true ?_
    repeat refine ndD ?_
    apply branch_intro <;> intro h
    · have hc : codeV 5 = c := of_decide_eq_true h
      subst hc
      show Eqv _ _
      exact .up (.up (.refl _))
    · have hc : codeV 5 ≠ c := of_decide_eq_false h
      refine ⟨6, ⟨by decide, fun j hj => ?_⟩, by decide, weak_keep (keep 18 [0, 2, 3, 4, 7]) [0] rfl rfl rfl⟩
      by_cases hj2 : j < 5
      · exact hno j hj2
      · have : j = 5 := by omega
        subst this
        exact hc
  | 6, ⟨_, hno⟩ =>
    refine branch_true ?_
    repeat refine ndD ?_
    apply branch_intro <;> intro h
    · have hc : codeV 6 = c := of_decide_eq_true h
      subst hc
      show Eqv _ _
      exact .up (.up (.refl _))
    · have hc : codeV 6 ≠ c := of_decide_eq_false h
      refine ⟨7, ⟨by decide, fun j hj => ?_⟩, by decide, weak_keep (keep 18 [0, 2, 3, 4, 7]) [0] rfl rfl rfl⟩
      by_cases hj2 : j < 6
      · exact hno j hj2
      · have : j = 6 := by omega
        subst this
        exact hc
  | 7, ⟨_, hno⟩ =>
    refine branch_true ?_
    repeat refine ndD ?_
    apply branch_intro <;> intro h
    · have hc : codeV 7 = c := of_decide_eq_true h
      subst hc
      show Eqv _ _
      exact .up (.up (.refl _))
    · have hc : codeV 7 ≠ c := of_decide_eq_false h
      refine ⟨8, ⟨by decide, fun j hj => ?_⟩, by decide, weak_keep (keep 18 [0, 2, 3, 4, 7]) [0] rfl rfl rfl⟩
      by_cases hj2 : j < 7
      · exact hno j hj2
      · have : j = 7 := by omega
        subst this
        exact hc
  | 8, ⟨_, hno⟩ =>
    refine branch_true ?_
    repeat refine ndD ?_
    apply branch_intro <;> intro h
    · have hc : codeV 8 = c := of_decide_eq_true h
      subst hc
      show Eqv _ _
      exact .up (.up (.refl _))
    · have hc : codeV 8 ≠ c := of_decide_eq_false h
      refine ⟨9, ⟨by decide, fun j hj => ?_⟩, by decide, weak_keep (keep 18 [0, 2, 3, 4, 7]) [0] rfl rfl rfl⟩
      by_cases hj2 : j < 8
      · exact hno j hj2
      · have : j = 8 := by omega
        subst this
        exact hc
  | 9, ⟨_, hno⟩ =>
    refine branch_true ?_
    repeat refine ndD ?_
    apply branch_intro <;> intro h
    · have hc : codeV 9 = c := of_decide_eq_true h
      subst hc
      show Eqv _ _
      exact .up (.up (.refl _))
    · have hc : codeV 9 ≠ c := of_decide_eq_false h
      refine ⟨10, ⟨by decide, fun j hj => ?_⟩, by decide, weak_keep (keep 18 [0, 2, 3, 4, 7]) [0] rfl rfl rfl⟩
      by_cases hj2 : j < 9
      · exact hno j hj2
      · have : j = 9 := by omega
        subst this
        exact hc
  | 10, ⟨_, hno⟩ =>
    refine branch_true ?_
    repeat refine ndD ?_
    apply branch_intro <;> intro h
    · have hc : codeV 10 = c := of_decide_eq_true h
      subst hc
      show Eqv _ _
      exact .up (.up (.refl _))
    · have hc : codeV 10 ≠ c := of_decide_eq_false h
      refine ⟨11, ⟨by decide, fun j hj => ?_⟩, by decide, weak_keep (keep 18 [0, 2, 3, 4, 7]) [0] rfl rfl rfl⟩
      by_cases hj2 : j < 10
      · exact hno j hj2
      · have : j = 10 := by omega
        subst this
        exact hc
  | 11, ⟨_, hno⟩ =>
    refine branch_false ?_
    show Eqv _ _
    refine eqv_of_eq ?_
    unfold digV digE
    rw [digN_none hno]
    rfl
end Go.Proofs
/-! Ab. -/
namespace Go.Proofs
open Go.E
set_option maxRecDepth 8000

/-- Row k + 1 of a display is valid. -/
def okB (d : Nat → Int) (k : Nat) : Bool := match k with
  | 0 => decide (d 22 < 11) && decide (d 23 < 11) && decide (d 18 ≤ 2)
  | 1 => decide (d 20 < 11) && decide (d 21 < 11) && decide (d 18 ≤ 2)
  | 2 => decide (d 17 < 11) && decide (d 19 < 11)
  | 3 => decide (d 15 < 11) && decide (d 16 < 11) && decide (d 12 ≤ 2)
  | 4 => decide (d 13 < 11) && decide (d 14 < 11) && decide (d 12 ≤ 2)
  | 5 => decide (d 10 < 11) && decide (d 11 < 11) && decide (d 6 ≤ 2)
  | 6 => decide (d 8 < 11) && decide (d 9 < 11) && decide (d 6 ≤ 2)
  | 7 => decide (d 7 < 11)
  | 8 => decide (d 4 < 11) && decide (d 5 < 11)
  | 9 => decide (d 2 < 11) && decide (d 3 < 11)
  | 10 => decide (d 0 < 11) && decide (d 1 < 11)
  | _ => true
def allB (d : Nat → Int) : Nat → Bool
  | 0 => true
  | k + 1 => allB d k && okB d k
def mayB (d : Nat → Int) : Bool := allB d 11 && decide (d 24 < 2048) && decide (d 25 < 2048)
theorem allB_at {d : Nat → Int} : ∀ {n : Nat}, allB d n = true → ∀ j, j < n → okB d j = true
  | 0, _, j, hj => by omega
  | n + 1, h, j, hj => by
    simp only [allB, Bool.and_eq_true] at h
    by_cases hj2 : j < n
    · exact allB_at h.1 j hj2
    · have : j = n := by omega
      subst this
      exact h.2
theorem allB_of {d : Nat → Int} : ∀ {n : Nat}, (∀ j, j < n → okB d j = true) → allB d n = true
  | 0, _ => rfl
  | n + 1, h => by
    simp only [allB, Bool.and_eq_true]
    exact ⟨allB_of fun j hj => h j (by omega), h n (by omega)⟩
theorem mayB_bad {d : Nat → Int} {k : Nat} (hk : k < 11) (h : okB d k = false) : mayB d = false := by
  cases hm : mayB d with
  | false => rfl
  | true =>
    unfold mayB at hm
    simp only [Bool.and_eq_true] at hm
    rw [allB_at hm.1.1 k hk] at h
    cases h
def W8 (x : Int) : Prop := 0 ≤ x ∧ x < 256
def WD (d : Nat → Int) : Prop := (∀ j, j < 24 → W8 (d j)) ∧ (0 ≤ d 24 ∧ d 24 < 65536) ∧ (0 ≤ d 25 ∧ d 25 < 65536)
theorem lights_b {x : Int} (h0 : 0 ≤ x) (h1 : x < 65536) : (x.fdiv (2 ^ (min (11 : Int).toNat IntKind.u16.bits)) == 0) = decide (x < 2048) := by
  have e : x.fdiv (2 ^ (min (11 : Int).toNat IntKind.u16.bits)) = x / 2048 := by rw [Int.fdiv_eq_ediv_of_nonneg _ (by decide)]; rfl
  rw [e]
  by_cases h : x < 2048
  · rw [decide_eq_true h, beq_iff_eq]; omega
  · rw [decide_eq_false h, beq_eq_false_iff_ne]; omega
set_option maxHeartbeats 4000000 in
theorem may_c {d : Nat → Int} (hd : WD d) : callP Try.prog 13 [dispA d] (· = .bool (mayB d)) := by
  refine callE_def env (fn := Try.f13) rfl (by decide) rfl ?_
  refine callT_part [0, 1] rfl (table_c (d := d) (x := 0)) ?_
  rintro v H' ⟨rfl, rfl⟩ x G hx hG
  obtain rfl : x = tabA 0 1 := hx
  obtain rfl : G = [.cells (dcells d), .cells [.int .u8 0], .cells (tabL 0 1)] := hG
  repeat refine ndD ?_
  refine loop_weak (fun i : Nat => slots 49 [(1, .ptr ⟨0, 0, 0⟩), (2, .bool false), (8, .slice ⟨2, 0, 4⟩ 11), (9, .int .i64 11), (10, .int .i64 i)])
    (fun _ => [.cells (dcells d), .cells [.int .u8 0], .cells (tabL 0 1)])
    (fun i => i ≤ 11 ∧ ∀ j, j < i → okB d j = true) (fun i => 11 - i) 0 ⟨Nat.zero_le _, fun j hj => by omega⟩ ?_ ?_
  · refine weak_keep (keep 49 [1, 2, 8, 9, 10]) [0, 1, 3] ?_ ?_ ?_
    · rfl
    · rfl
    · rfl
  intro i hi
  match i, hi with
  | 0, ⟨_, hno⟩ =>
    refine branch_true ?_
    repeat refine ndD ?_
    apply branch_intro <;> intro h1 <;> simp at h1
    · repeat refine stb ?_
      show Eqv _ _
      have : okB d 0 = false := by unfold okB; simp; omega
      rw [mayB_bad (by decide) this]
      show Eqv _ _
      exact .up (.up (.refl _))
    repeat refine stb ?_
    apply branch_intro <;> intro h2 <;> simp at h2
    · repeat refine stb ?_
      show Eqv _ _
      have : okB d 0 = false := by unfold okB; simp; omega
      rw [mayB_bad (by decide) this]
      show Eqv _ _
      exact .up (.up (.refl _))
    repeat refine stb ?_
    apply branch_intro <;> intro h3 <;> simp at h3
    · repeat refine stb ?_
      show Eqv _ _
      have : okB d 0 = false := by unfold okB; simp; omega
      rw [mayB_bad (by decide) this]
      show Eqv _ _
      exact .up (.up (.refl _))
    repeat refine stb ?_
    refine ⟨1, ⟨by decide, fun j hj => ?_⟩, by decide, weak_keep (keep 49 [1, 2, 8, 9, 10]) [0, 1, 2] rfl rfl rfl⟩
    by_cases hj2 : j < 0
    · exact hno j hj2
    · have : j = 0 := by omega
      subst this
      unfold okB
      simp
      omega
  | 1, ⟨_, hno⟩ =>
    refine branch_true ?_
    repeat refine ndD ?_
    apply branch_intro <;> intro h1 <;> simp at h1
    · repeat refine stb ?_
      show Eqv _ _
      have : okB d 1 = false := by unfold okB; simp; omega
      rw [mayB_bad (by decide) this]
      show Eqv _ _
      exact .up (.up (.refl _))
    repeat refine stb ?_
    apply branch_intro <;> intro h2 <;> simp at h2
    · repeat refine stb ?_
      show Eqv _ _
      have : okB d 1 = false := by unfold okB; simp; omega
      rw [mayB_bad (by decide) this]
      show Eqv _ _
      exact .up (.up (.refl _))
    repeat refine stb ?_
    apply branch_intro <;> intro h3 <;> simp at h3
    · repeat refine stb ?_
      show Eqv _ _
      have : okB d 1 = false := by unfold okB; simp; omega
      rw [mayB_bad (by decide) this]
      show Eqv _ _
      exact .up (.up (.refl _))
    repeat refine stb ?_
    refine ⟨2, ⟨by decide, fun j hj => ?_⟩, by decide, weak_keep (keep 49 [1, 2, 8, 9, 10]) [0, 1, 2] rfl rfl rfl⟩
    by_cases hj2 : j < 1
    · exact hno j hj2
    · have : j = 1 := by omega
      subst this
      unfold okB
      simp
      omega
  | 2, ⟨_, hno⟩ =>
    refine branch_true ?_
    repeat refine ndD ?_
    apply branch_intro <;> intro h1 <;> simp at h1
    · repeat refine stb ?_
      show Eqv _ _
      have : okB d 2 = false := by unfold okB; simp; omega
      rw [mayB_bad (by decide) this]
      show Eqv _ _
      exact .up (.up (.refl _))
    repeat refine stb ?_
    apply branch_intro <;> intro h2 <;> simp at h2
    · repeat refine stb ?_
      show Eqv _ _
      have : okB d 2 = false := by unfold okB; simp; omega
      rw [mayB_bad (by decide) this]
      show Eqv _ _
      exact .up (.up (.refl _))
    repeat refine stb ?_
    refine ⟨3, ⟨by decide, fun j hj => ?_⟩, by decide, weak_keep (keep 49 [1, 2, 8, 9, 10]) [0, 1, 2] rfl rfl rfl⟩
    by_cases hj2 : j < 2
    · exact hno j hj2
    · have : j = 2 := by omega
      subst this
      unfold okB
      simp
      omega
  | 3, ⟨_, hno⟩ =>
    refine branch_true ?_
    repeat refine ndD ?_
    apply branch_intro <;> intro h1 <;> simp at h1
    · repeat refine stb ?_
      show Eqv _ _
      have : okB d 3 = false := by unfold okB; simp; omega
      rw [mayB_bad (by decide) this]
      show Eqv _ _
      exact .up (.up (.refl _))
    repeat refine stb ?_
    apply branch_intro <;> intro h2 <;> simp at h2
    · repeat refine stb ?_
      show Eqv _ _
      have : okB d 3 = false := by unfold okB; simp; omega
      rw [mayB_bad (by decide) this]
      show Eqv _ _
      exact .up (.up (.refl _))
    repeat refine stb ?_
    apply branch_intro <;> intro h3 <;> simp at h3
    · repeat refine stb ?_
      show Eqv _ _
      have : okB d 3 = false := by unfold okB; simp; omega
      rw [mayB_bad (by decide) this]
      show Eqv _ _
      exact .up (.up (.refl _))
    repeat refine stb ?_
    refine ⟨4, ⟨by decide, fun j hj => ?_⟩, by decide, weak_keep (keep 49 [1, 2, 8, 9, 10]) [0, 1, 2] rfl rfl rfl⟩
    by_cases hj2 : j < 3
    · exact hno j hj2
    · have : j = 3 := by omega
      subst this
      unfold okB
      simp
      omega
  | 4, ⟨_, hno⟩ =>
    refine branch_true ?_
    repeat refine ndD ?_
    apply branch_intro <;> intro h1 <;> simp at h1
    · repeat refine stb ?_
      show Eqv _ _
      have : okB d 4 = false := by unfold okB; simp; omega
      rw [mayB_bad (by decide) this]
      show Eqv _ _
      exact .up (.up (.refl _))
    repeat refine stb ?_
    apply branch_intro <;> intro h2 <;> simp at h2
    · repeat refine stb ?_
      show Eqv _ _
      have : okB d 4 = false := by unfold okB; simp; omega
      rw [mayB_bad (by decide) this]
      show Eqv _ _
      exact .up (.up (.refl _))
    repeat refine stb ?_
    apply branch_intro <;> intro h3 <;> simp at h3
    · repeat refine stb ?_
      show Eqv _ _
      have : okB d 4 = false := by unfold okB; simp; omega
      rw [mayB_bad (by decide) this]
      show Eqv _ _
      exact .up (.up (.refl _))
    repeat refine stb ?_
    refine ⟨5, ⟨by decide, fun j hj => ?_⟩, by decide, weak_keep (keep 49 [1, 2, 8, 9, 10]) [0, 1, 2] rfl rfl rfl⟩
    by_cases hj2 : j < 4
    · exact hno j hj2
    · have : j = 4 := by omega
      subst this
      unfold okB
      simp
      omega
  | 5, ⟨_, hno⟩ =>
    refine branch_true ?_
    repeat refine ndD ?_
    apply branch_intro <;> intro h1 <;> simp at h1
    · repeat refine stb ?_
      show Eqv _ _
      have : okB d 5 = false := by unfold okB; simp; omega
      rw [mayB_bad (by decide) this]
      show Eqv _ _
      exact .up (.up (.refl _))
    repeat refine stb ?_
    apply branch_intro <;> intro h2 <;> simp at h2
    · repeat refine stb ?_
      show Eqv _ _
      have : okB d 5 = false := by unfold okB; simp; omega
      rw [mayB_bad (by decide) this]
      show Eqv _ _
      exact .up (.up (.refl _))
    repeat refine stb ?_
    apply branch_intro <;> intro h3 <;> simp at h3
    · repeat refine stb ?_
      show Eqv _ _
      have : okB d 5 = false := by unfold okB; simp; omega
      rw [mayB_bad (by decide) this]
      show Eqv _ _
      exact .up (.up (.refl _))
    repeat refine stb ?_
    refine ⟨6, ⟨by decide, fun j hj => ?_⟩, by decide, weak_keep (keep 49 [1, 2, 8, 9, 10]) [0, 1, 2] rfl rfl rfl⟩
    by_cases hj2 : j < 5
    · exact hno j hj2
    · have : j = 5 := by omega
      subst this
      unfold okB
      simp
      omega
  | 6, ⟨_, hno⟩ =>
    refine branch_true ?_
    repeat refine ndD ?_
    apply branch_intro <;> intro h1 <;> simp at h1
    · repeat refine stb ?_
      show Eqv _ _
      have : okB d 6 = false := by unfold okB; simp; omega
      rw [mayB_bad (by decide) this]
      show Eqv _ _
      exact .up (.up (.refl _))
    repeat refine stb ?_
    apply branch_intro <;> intro h2 <;> simp at h2
    · repeat refine stb ?_
      show Eqv _ _
      have : okB d 6 = false := by unfold okB; simp; omega
      rw [mayB_bad (by decide) this]
      show Eqv _ _
      exact .up (.up (.refl _))
    repeat refine stb ?_
    apply branch_intro <;> intro h3 <;> simp at h3
    · repeat refine stb ?_
      show Eqv _ _
      have : okB d 6 = false := by unfold okB; simp; omega
      rw [mayB_bad (by decide) this]
      show Eqv _ _
      exact .up (.up (.refl _))
    repeat refine stb ?_
    refine ⟨7, ⟨by decide, fun j hj => ?_⟩, by decide, weak_keep (keep 49 [1, 2, 8, 9, 10]) [0, 1, 2] rfl rfl rfl⟩
    by_cases hj2 : j < 6
    · exact hno j hj2
    · have : j = 6 := by omega
      subst this
      unfold okB
      simp
      omega
  | 7, ⟨_, hno⟩ =>
    refine branch_true ?_
    repeat refine ndD ?_
    refine branch_f' (by decide) ?_
    repeat refine stb ?_
    apply branch_intro <;> intro h2 <;> simp at h2
    · repeat refine stb ?_
      show Eqv _ _
      have : okB d 7 = false := by unfold okB; simp; omega
      rw [mayB_bad (by decide) this]
      show Eqv _ _
      exact .up (.up (.refl _))
    repeat refine stb ?_
    refine ⟨8, ⟨by decide, fun j hj => ?_⟩, by decide, weak_keep (keep 49 [1, 2, 8, 9, 10]) [0, 1, 2] rfl rfl rfl⟩
    by_cases hj2 : j < 7
    · exact hno j hj2
    · have : j = 7 := by omega
      subst this
      unfold okB
      simp
      omega
  | 8, ⟨_, hno⟩ =>
    refine branch_true ?_
    repeat refine ndD ?_
    apply branch_intro <;> intro h1 <;> simp at h1
    · repeat refine stb ?_
      show Eqv _ _
      have : okB d 8 = false := by unfold okB; simp; omega
      rw [mayB_bad (by decide) this]
      show Eqv _ _
      exact .up (.up (.refl _))
    repeat refine stb ?_
    apply branch_intro <;> intro h2 <;> simp at h2
    · repeat refine stb ?_
      show Eqv _ _
      have : okB d 8 = false := by unfold okB; simp; omega
      rw [mayB_bad (by decide) this]
      show Eqv _ _
      exact .up (.up (.refl _))
    repeat refine stb ?_
    refine ⟨9, ⟨by decide, fun j hj => ?_⟩, by decide, weak_keep (keep 49 [1, 2, 8, 9, 10]) [0, 1, 2] rfl rfl rfl⟩
    by_cases hj2 : j < 8
    · exact hno j hj2
    · have : j = 8 := by omega
      subst this
      unfold okB
      simp
      omega
  | 9, ⟨_, hno⟩ =>
    refine branch_true ?_
    repeat refine ndD ?_
    apply branch_intro <;> intro h1 <;> simp at h1
    · repeat refine stb ?_
      show Eqv _ _
      have : okB d 9 = false := by unfold okB; simp; omega
      rw [mayB_bad (by decide) this]
      show Eqv _ _
      exact .up (.up (.refl _))
    repeat refine stb ?_
    apply branch_intro <;> intro h2 <;> simp at h2
    · repeat refine stb ?_
      show Eqv _ _
      have : okB d 9 = false := by unfold okB; simp; omega
      rw [mayB_bad (by decide) this]
      show Eqv _ _
      exact .up (.up (.refl _))
    repeat refine stb ?_
    refine ⟨10, ⟨by decide, fun j hj => ?_⟩, by decide, weak_keep (keep 49 [1, 2, 8, 9, 10]) [0, 1, 2] rfl rfl rfl⟩
    by_cases hj2 : j < 9
    · exact hno j hj2
    · have : j = 9 := by omega
      subst this
      unfold okB
      simp
      omega
  | 10, ⟨_, hno⟩ =>
    refine branch_true ?_
    repeat refine ndD ?_
    apply branch_intro <;> intro h1 <;> simp at h1
    · repeat refine stb ?_
      show Eqv _ _
      have : okB d 10 = false := by unfold okB; simp; omega
      rw [mayB_bad (by decide) this]
      show Eqv _ _
      exact .up (.up (.refl _))
    repeat refine stb ?_
    apply branch_intro <;> intro h2 <;> simp at h2
    · repeat refine stb ?_
      show Eqv _ _
      have : okB d 10 = false := by unfold okB; simp; omega
      rw [mayB_bad (by decide) this]
      show Eqv _ _
      exact .up (.up (.refl _))
    repeat refine stb ?_
    refine ⟨11, ⟨by decide, fun j hj => ?_⟩, by decide, weak_keep (keep 49 [1, 2, 8, 9, 10]) [0, 1, 2] rfl rfl rfl⟩
    by_cases hj2 : j < 10
    · exact hno j hj2
    · have : j = 10 := by omega
      subst this
      unfold okB
      simp
      omega
  | 11, ⟨_, hno⟩ =>
    refine branch_false ?_
    have ha := allB_of hno
    repeat refine ndD ?_
    have e1 := lights_b hd.2.1.1 hd.2.1.2
    have e2 := lights_b hd.2.2.1 hd.2.2.2
    have em : mayB d = (decide (d 24 < 2048) && decide (d 25 < 2048)) := by unfold mayB; rw [ha, Bool.true_and]
    apply branch_intro <;> intro h1 <;> rw [e1] at h1
    · repeat refine stb ?_
      repeat refine ndD ?_
      repeat refine stb ?_
      show Eqv _ _
      rw [em, h1, Bool.true_and, ← e2]
      show Eqv _ _
      exact .up (.up (.refl _))
    · repeat refine stb ?_
      show Eqv _ _
      rw [em, h1]
      show Eqv _ _
      exact .up (.up (.refl _))
/-! The blank display. -/
def rowOf (j : Nat) : Nat := match j with
  | 0 => 10
  | 1 => 10
  | 2 => 9
  | 3 => 9
  | 4 => 8
  | 5 => 8
  | 7 => 7
  | 8 => 6
  | 9 => 6
  | 10 => 5
  | 11 => 5
  | 13 => 4
  | 14 => 4
  | 15 => 3
  | 16 => 3
  | 17 => 2
  | 19 => 2
  | 20 => 1
  | 21 => 1
  | 22 => 0
  | 23 => 0
  | _ => 99
def clD (i j : Nat) : Int := match Nat.blt (rowOf j) i with | true => 10 | false => 0
def blankD : Nat → Int := clD 11
def clS (i : Nat) : Int := match Nat.blt 7 i with | true => 10 | false => 0
set_option maxHeartbeats 4000000 in
theorem clear_c : callP Try.prog 27 [] (· = dispA blankD) := by
  refine callE_def env (fn := Try.f27) rfl (by decide) rfl ?_
  refine callT_part [1, 2] rfl (table_c (d := fun _ => 0) (x := 0)) ?_
  rintro v H' ⟨rfl, rfl⟩ x G hx hG
  obtain rfl : x = tabA 1 2 := hx
  obtain rfl : G = [.cells (dcells fun _ => 0), .cells (dcells fun _ => 0), .cells [.int .u8 0], .cells (tabL 1 2)] := hG
  repeat refine ndD ?_
  refine loop_weak (fun i : Nat => slots 21 [(0, .ptr ⟨0, 0, 0⟩), (1, .ptr ⟨1, 0, 0⟩), (7, .slice ⟨3, 0, 4⟩ 11), (8, .int .i64 11), (9, .int .i64 i)])
    (fun i => [.cells (dcells fun _ => 0), .cells (dcells (clD i)), .cells [.int .u8 (clS i)], .cells (tabL 1 2)])
    (fun i => i ≤ 11) (fun i => 11 - i) 0 (Nat.zero_le _) (weak_keep (keep 21 [0, 1, 7, 8, 9]) [0, 1, 2, 4] rfl rfl rfl) ?_
  intro i hi
  match i, hi with
  | 0, _ =>
    refine branch_true ?_
    repeat refine ndD ?_
    refine draw_tree (picks [0, 1, 2, 4] (.fork 3 5 (picks [5, 6, 7] .done) (picks [3, 6, 7] .done))) (by decide +kernel) ?_
    refine ⟨?_, ?_⟩
    · exact ⟨1, by decide, by decide, weak_keep (keep 21 [0, 1, 7, 8, 9]) [0, 1, 2, 3] rfl rfl rfl⟩
    · exact ⟨1, by decide, by decide, weak_keep (keep 21 [0, 1, 7, 8, 9]) [0, 1, 2, 3] rfl rfl rfl⟩
  | 1, _ =>
    refine branch_true ?_
    repeat refine ndD ?_
    refine draw_tree (picks [0, 1, 2, 4] (.fork 3 5 (picks [5, 6, 7] .done) (picks [3, 6, 7] .done))) (by decide +kernel) ?_
    refine ⟨?_, ?_⟩
    · exact ⟨2, by decide, by decide, weak_keep (keep 21 [0, 1, 7, 8, 9]) [0, 1, 2, 3] rfl rfl rfl⟩
    · exact ⟨2, by decide, by decide, weak_keep (keep 21 [0, 1, 7, 8, 9]) [0, 1, 2, 3] rfl rfl rfl⟩
  | 2, _ =>
    refine branch_true ?_
    repeat refine ndD ?_
    refine draw_tree (picks [0, 1, 2, 4] (.fork 3 5 (picks [5, 6, 7] .done) (picks [3, 6, 7] .done))) (by decide +kernel) ?_
    refine ⟨?_, ?_⟩
    · exact ⟨3, by decide, by decide, weak_keep (keep 21 [0, 1, 7, 8, 9]) [0, 1, 2, 3] rfl rfl rfl⟩
    · exact ⟨3, by decide, by decide, weak_keep (keep 21 [0, 1, 7, 8, 9]) [0, 1, 2, 3] rfl rfl rfl⟩
  | 3, _ =>
    refine branch_true ?_
    repeat refine ndD ?_
    refine draw_tree (picks [0, 1, 2, 4] (.fork 3 5 (picks [5, 6, 7] .done) (picks [3, 6, 7] .done))) (by decide +kernel) ?_
    refine ⟨?_, ?_⟩
    · exact ⟨4, by decide, by decide, weak_keep (keep 21 [0, 1, 7, 8, 9]) [0, 1, 2, 3] rfl rfl rfl⟩
    · exact ⟨4, by decide, by decide, weak_keep (keep 21 [0, 1, 7, 8, 9]) [0, 1, 2, 3] rfl rfl rfl⟩
  | 4, _ =>
    refine branch_true ?_
    repeat refine ndD ?_
    refine draw_tree (picks [0, 1, 2, 4] (.fork 3 5 (picks [5, 6, 7] .done) (picks [3, 6, 7] .done))) (by decide +kernel) ?_
    refine ⟨?_, ?_⟩
    · exact ⟨5, by decide, by decide, weak_keep (keep 21 [0, 1, 7, 8, 9]) [0, 1, 2, 3] rfl rfl rfl⟩
    · exact ⟨5, by decide, by decide, weak_keep (keep 21 [0, 1, 7, 8, 9]) [0, 1, 2, 3] rfl rfl rfl⟩
  | 5, _ =>
    refine branch_true ?_
    repeat refine ndD ?_
    refine draw_tree (picks [0, 1, 2, 4] (.fork 3 5 (picks [5, 6, 7] .done) (picks [3, 6, 7] .done))) (by decide +kernel) ?_
    refine ⟨?_, ?_⟩
    · exact ⟨6, by decide, by decide, weak_keep (keep 21 [0, 1, 7, 8, 9]) [0, 1, 2, 3] rfl rfl rfl⟩
    · exact ⟨6, by decide, by decide, weak_keep (keep 21 [0, 1, 7, 8, 9]) [0, 1, 2, 3] rfl rfl rfl⟩
  | 6, _ =>
    refine branch_true ?_
    repeat refine ndD ?_
    refine draw_tree (picks [0, 1, 2, 4] (.fork 3 5 (picks [5, 6, 7] .done) (picks [3, 6, 7] .done))) (by decide +kernel) ?_
    refine ⟨?_, ?_⟩
    · exact ⟨7, by decide, by decide, weak_keep (keep 21 [0, 1, 7, 8, 9]) [0, 1, 2, 3] rfl rfl rfl⟩
    · exact ⟨7, by decide, by decide, weak_keep (keep 21 [0, 1, 7, 8, 9]) [0, 1, 2, 3] rfl rfl rfl⟩
  | 7, _ =>
    refine branch_true ?_
    repeat refine ndD ?_
    refine draw_tree (picks [0, 1, 2, 4] (.fork 3 5 (picks [5, 6, 7] .done) (picks [3, 6, 7] .done))) (by decide +kernel) ?_
    refine ⟨?_, ?_⟩
    · exact ⟨8, by decide, by decide, weak_keep (keep 21 [0, 1, 7, 8, 9]) [0, 1, 2, 3] rfl rfl rfl⟩
    · exact ⟨8, by decide, by decide, weak_keep (keep 21 [0, 1, 7, 8, 9]) [0, 1, 2, 3] rfl rfl rfl⟩
  | 8, _ =>
    refine branch_true ?_
    repeat refine ndD ?_
    refine draw_tree (picks [0, 1, 2, 4] (.fork 3 5 (picks [5, 6, 7] .done) (picks [3, 6, 7] .done))) (by decide +kernel) ?_
    refine ⟨?_, ?_⟩
    · exact ⟨9, by decide, by decide, weak_keep (keep 21 [0, 1, 7, 8, 9]) [0, 1, 2, 3] rfl rfl rfl⟩
    · exact ⟨9, by decide, by decide, weak_keep (keep 21 [0, 1, 7, 8, 9]) [0, 1, 2, 3] rfl rfl rfl⟩
  | 9, _ =>
    refine branch_true ?_
    repeat refine ndD ?_
    refine draw_tree (picks [0, 1, 2, 4] (.fork 3 5 (picks [5, 6, 7] .done) (picks [3, 6, 7] .done))) (by decide +kernel) ?_
    refine ⟨?_, ?_⟩
    · exact ⟨10, by decide, by decide, weak_keep (keep 21 [0, 1, 7, 8, 9]) [0, 1, 2, 3] rfl rfl rfl⟩
    · exact ⟨10, by decide, by decide, weak_keep (keep 21 [0, 1, 7, 8, 9]) [0, 1, 2, 3] rfl rfl rfl⟩
  | 10, _ =>
    refine branch_true ?_
    repeat refine ndD ?_
    refine draw_tree (picks [0, 1, 2, 4] (.fork 3 5 (picks [5, 6, 7] .done) (picks [3, 6, 7] .done))) (by decide +kernel) ?_
    refine ⟨?_, ?_⟩
    · exact ⟨11, by decide, by decide, weak_keep (keep 21 [0, 1, 7, 8, 9]) [0, 1, 2, 3] rfl rfl rfl⟩
    · exact ⟨11, by decide, by decide, weak_keep (keep 21 [0, 1, 7, 8, 9]) [0, 1, 2, 3] rfl rfl rfl⟩
  | 11, _ =>
    refine branch_false ?_
    show Eqv _ _
    exact .up (.up (.refl _))
end Go.Proofs
