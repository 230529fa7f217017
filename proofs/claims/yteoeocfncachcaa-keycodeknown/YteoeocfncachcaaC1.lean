/- The program's types, as the engine reads them (printed by wip/tenv.py). -/
import Derived.Test.YteoeocfncachcaaProg
import Derived.Test.YteoeocfncachcaaE2
import Derived.Shelf.Strings.Builder1
import Derived.Shelf.Strings.BuilderF
import Derived.Shelf.Strings.BuilderK
import Derived.WalkKit
import Derived.BigCall
import Derived.Test.YteoeocfncachcaaE4
import Derived.Laws.Bits64
import Derived.Laws.BitsLemmas
import Derived.Laws.RangeAny
set_option linter.unusedVariables false
set_option linter.unusedSimpArgs false
/-! Te. -/
namespace Go.Proofs
open Go.E
noncomputable def Tenv : TEnv := [
  ⟨1, 0, .other, some [.any], true⟩,
  ⟨1, 8, .func, some [.nilfn], true⟩,
  ⟨1, 8, .int .i64, some [.int .i64 0], true⟩,
  ⟨1, 8, .int .i64, some [.int .i64 0], true⟩,
  ⟨1, 1, .bool, some [.bool false], true⟩,
  ⟨1, 1, .int .u8, some [.int .u8 0], true⟩,
  ⟨1, 1, .int .u8, some [.int .u8 0], true⟩,
  ⟨4, 24, .struct [(0, 2), (1, 3), (2, 4), (3, 6)], some [.int .i64 0, .int .i64 0, .bool false, .int .u8 0], true⟩,
  ⟨4, 24, .struct [(0, 2), (1, 3), (2, 4), (3, 6)], some [.int .i64 0, .int .i64 0, .bool false, .int .u8 0], true⟩,
  ⟨1, 16, .str, some [.str ⟨#[]⟩], true⟩,
  ⟨1, 16, .str, some [.str ⟨#[]⟩], true⟩,
  ⟨1, 16, .str, some [.str ⟨#[]⟩], true⟩,
  ⟨1, 8, .int .u64, some [.int .u64 0], true⟩,
  ⟨2, 24, .struct [(0, 9), (1, 12)], some [.str ⟨#[]⟩, .int .u64 0], false⟩,
  ⟨2, 24, .struct [(0, 9), (1, 12)], some [.str ⟨#[]⟩, .int .u64 0], false⟩,
  ⟨1, 8, .ptr, some [.nilptr], true⟩,
  ⟨1, 8, .ptr, some [.nilptr], true⟩,
  ⟨1, 8, .ptr, some [.nilptr], true⟩,
  ⟨1, 8, .struct [(0, 17)], some [.nilptr], false⟩,
  ⟨1, 8, .struct [(0, 17)], some [.nilptr], false⟩,
  ⟨1, 16, .other, some [.any], true⟩,
  ⟨1, 4, .int .i32, some [.int .i32 0], true⟩,
  ⟨1, 1, .int .u8, some [.int .u8 0], true⟩,
  ⟨1, 0, .other, some [.any], true⟩,
  ⟨1, 8, .func, some [.nilfn], true⟩,
  ⟨1, 8, .int .i64, some [.int .i64 0], true⟩,
  ⟨1, 0, .other, some [.any], true⟩,
  ⟨1, 8, .func, some [.nilfn], true⟩,
  ⟨1, 8, .func, some [.nilfn], true⟩,
  ⟨1, 24, .slice 22, some [.nilslice], true⟩,
  ⟨1, 8, .int .u64, some [.int .u64 0], true⟩,
  ⟨2, 16, .arr 2 3, some [.int .i64 0, .int .i64 0], true⟩,
  ⟨1, 0, .other, some [.any], true⟩,
  ⟨1, 8, .func, some [.nilfn], true⟩,
  ⟨1, 0, .other, some [.any], true⟩,
  ⟨1, 8, .func, some [.nilfn], true⟩,
  ⟨1, 0, .other, some [.any], true⟩,
  ⟨1, 8, .func, some [.nilfn], true⟩,
  ⟨1, 8, .func, some [.nilfn], true⟩,
  ⟨1, 8, .func, some [.nilfn], true⟩,
  ⟨1, 24, .slice 5, some [.nilslice], true⟩,
  ⟨1, 8, .func, some [.nilfn], true⟩,
  ⟨1, 8, .func, some [.nilfn], true⟩,
  ⟨2, 2, .arr 2 22, some [.int .u8 0, .int .u8 0], true⟩,
  ⟨1, 0, .other, some [.any], true⟩,
  ⟨1, 8, .func, some [.nilfn], true⟩,
  ⟨1, 0, .other, some [.any], true⟩,
  ⟨1, 8, .func, some [.nilfn], true⟩,
  ⟨1, 8, .func, some [.nilfn], true⟩,
  ⟨19, 152, .arr 19 3, some [.int .i64 0, .int .i64 0, .int .i64 0, .int .i64 0, .int .i64 0, .int .i64 0, .int .i64 0, .int .i64 0, .int .i64 0, .int .i64 0, .int .i64 0, .int .i64 0, .int .i64 0, .int .i64 0, .int .i64 0, .int .i64 0, .int .i64 0, .int .i64 0, .int .i64 0], true⟩,
  ⟨1, 8, .func, some [.nilfn], true⟩,
  ⟨1, 8, .func, some [.nilfn], true⟩,
  ⟨1, 24, .slice 3, some [.nilslice], true⟩,
  ⟨1, 8, .func, some [.nilfn], true⟩,
  ⟨1, 8, .func, some [.nilfn], true⟩,
  ⟨1, 8, .ptr, some [.nilptr], true⟩,
  ⟨2, 32, .struct [(0, 55), (1, 40)], some [.nilptr, .nilslice], true⟩,
  ⟨2, 32, .struct [(0, 55), (1, 40)], some [.nilptr, .nilslice], true⟩,
  ⟨1, 16, .other, some [.any], false⟩,
  ⟨1, 16, .other, some [.any], false⟩,
  ⟨1, 8, .func, some [.nilfn], true⟩,
  ⟨1, 8, .func, some [.nilfn], true⟩,
  ⟨1, 8, .ptr, some [.nilptr], true⟩,
  ⟨1, 8, .other, some [.nilptr], true⟩,
  ⟨1, 8, .func, some [.nilfn], true⟩,
  ⟨4, 40, .struct [(0, 17), (1, 17), (2, 17), (3, 9)], some [.nilptr, .nilptr, .nilptr, .str ⟨#[]⟩], false⟩,
  ⟨4, 40, .struct [(0, 17), (1, 17), (2, 17), (3, 9)], some [.nilptr, .nilptr, .nilptr, .str ⟨#[]⟩], false⟩,
  ⟨0, 0, .arr 0 16, some [], true⟩,
  ⟨0, 0, .struct [(0, 67)], some [], false⟩,
  ⟨0, 0, .struct [(0, 67)], some [], false⟩,
  ⟨1, 8, .func, some [.nilfn], true⟩,
  ⟨1, 4, .int .u32, some [.int .u32 0], true⟩,
  ⟨1, 1, .int .u8, some [.int .u8 0], true⟩,
  ⟨1, 1, .int .u8, some [.int .u8 0], true⟩,
  ⟨1, 8, .func, some [.nilfn], true⟩,
  ⟨1, 4, .int .i32, some [.int .i32 0], true⟩,
  ⟨1, 4, .int .i32, some [.int .i32 0], true⟩,
  ⟨11, 48, .struct [(0, 12), (1, 12), (2, 71), (3, 72), (4, 5), (5, 5), (6, 73), (7, 74), (8, 62), (9, 75), (10, 76)], some [.int .u64 0, .int .u64 0, .int .u32 0, .int .u8 0, .int .u8 0, .int .u8 0, .int .u8 0, .nilfn, .nilptr, .int .i32 0, .int .i32 0], false⟩,
  ⟨11, 48, .struct [(0, 12), (1, 12), (2, 71), (3, 72), (4, 5), (5, 5), (6, 73), (7, 74), (8, 62), (9, 75), (10, 76)], some [.int .u64 0, .int .u64 0, .int .u32 0, .int .u8 0, .int .u8 0, .int .u8 0, .int .u8 0, .nilfn, .nilptr, .int .i32 0, .int .i32 0], false⟩]

theorem tok : TOK Try.prog Tenv := tok_with rfl (by decide +kernel) (by decide +kernel)
end Go.Proofs
/-! Shelf. -/
namespace Go.Proofs
open Go.Shelf
def Try.lays169_ren : Go.Shelf.Ren := ⟨fun | 169 => 33 | n => n, fun | 70 => 55 | 9 => 9 | 0 => 0 | 72 => 57 | 37 => 40 | 127 => 62 | 3 => 3 | 5 => 5 | n => n, fun | n => n⟩
theorem Try.lays169 : Go.Proofs.Lays.n169 Try.prog Try.lays169_ren := {
  mixed := by kernel_rfl
  f169 := Try.func33.trans (congrArg some (by kernel_rfl))
  t0 := Try.underlying0
  a0 := Try.isAgg0
  z0 := Try.sizeOf0
  v0 := Try.zeroValue0
  t3 := Try.underlying3
  a3 := Try.isAgg3
  z3 := Try.sizeOf3
  v3 := Try.zeroValue3
  t9 := Try.underlying9
  a9 := Try.isAgg9
  z9 := Try.sizeOf9
  v9 := Try.zeroValue9
  t37 := Try.underlying40
  a37 := Try.isAgg40
  z37 := Try.sizeOf40
  v37 := Try.zeroValue40
  t70 := Try.underlying55
  a70 := Try.isAgg55
  z70 := Try.sizeOf55
  v70 := Try.zeroValue55
  t72 := Try.underlying57
  a72 := Try.isAgg57
  z72 := Try.sizeOf57
  v72 := Try.zeroValue57
  t127 := Try.underlying62
  a127 := Try.isAgg62
  z127 := Try.sizeOf62
  v127 := Try.zeroValue62 }
theorem Try.Builder_Extra_169 : Builder.Extra Try.prog Try.lays169_ren := {
  sizeBuilder := by kernel_rfl
  liesBuilder := by kernel_rfl
  t5 := Try.underlying5
  a5 := Try.isAgg5
  z5 := Try.sizeOf5
  v5 := Try.zeroValue5
  infoByte := by kernel_rfl
  cellsByte := by kernel_rfl
  sizeByte := by kernel_rfl
  neB5 := by decide }
open Go.RowKit in
/-- (*strings.Builder).String: "String returns the accumulated string.": WHATEVER THE BUILDER HOLDS; THE FORM '_k': OVER 'Lib.IsBuilderF' (a builder that 'String()' may have read), AND WITH THE FRAME THAT REACHES ABOVE THE BUILDER: 'Lib.OthersKept': every block that is not b and is no row of uint8's stands as it stood: the iterator of a range among them. (LAID: no walk: one application.) -/
theorem Try.Builder_String_any_k (B b : Nat) (l : List UInt8) (w : World) (h : Lib.IsBuilderF 57 5 B b (Lib.byteCells l) w) (hBw : B ≤ w.heap.size) :
    Calls Try.prog 33 #[.pointer (some ⟨b, 0, none⟩)] w fun e w' => e = .returned (.string ⟨l.toArray⟩) ∧ (Lib.IsBuilderF 57 5 B b (Lib.byteCells l) w' ∧ Below B w w' ∧ Lib.OthersKept 5 (some b) w w') := Any.Builder_String_any_k Try.lays169 Try.Builder_Extra_169 B b l w h hBw
end Go.Proofs
/-! Sb. -/
namespace Go.Proofs
open Go.RowKit

theorem sb_size : (Try.prog.info? 57).map (·.size) = some 2 := by kernel_rfl
theorem sb_lies : liesAt Try.prog Try.prog.depth 57 (2 / Try.prog.cellsOf 57) 0 57 1 = true := by kernel_rfl
theorem sb_byte : (Try.prog.info? 5).map (fun i => (i.zero, i.size, i.bytes)) = some (some (.int .u8 0), 1, 1) := by kernel_rfl

set_option maxHeartbeats 1000000 in
set_option maxRecDepth 100000 in
theorem sb_used (b : Nat) (w : World) (h0 : w.cell? ⟨b, 0, none⟩ = some (.pointer (some ⟨b, 0, none⟩))) :
    Calls Try.prog 35 #[.pointer (some ⟨b, 0, none⟩)] w fun e w' => e = .returned (.tuple #[]) ∧ w' = w := by
  obtain ⟨j, hj, _⟩ := Option.map_eq_some_iff.1 sb_size
  go_enter Try.func35, Try.ntmps35
  go_wp2
  rw [Lib.run_neq_ptr_same w _ Try.underlying55 hj]
  go_wp2
  go_end0
  exact ⟨rfl, rfl⟩

set_option maxHeartbeats 1000000 in
set_option maxRecDepth 100000 in
theorem sb_fresh (b : Nat) (w : World) (h0 : w.cell? ⟨b, 0, none⟩ = some (.pointer none)) (hsh : w.shape? b = some (57, 2)) (hfz : w.frozen? ⟨b, 0, none⟩ = false) :
    Calls Try.prog 35 #[.pointer (some ⟨b, 0, none⟩)] w fun e w' => e = .returned (.tuple #[]) ∧ w' = w.setCell ⟨b, 0, none⟩ (.pointer (some ⟨b, 0, none⟩)) := by
  obtain ⟨j, hj, hjs⟩ := Option.map_eq_some_iff.1 sb_size
  go_enter Try.func35, Try.ntmps35
  go_wp2
  rw [Lib.run_to_unsafe w ⟨b, 0, none⟩ Try.underlying55 Try.underlying63 hj (by rw [hjs]; decide) hsh (Nat.zero_lt_succ 1)]
  simp only [Result.andThen]
  rw [Oper.upon_value]
  go_wp2
  rw [run_callFunc_extern Try.func36 (by kernel_rfl) (by kernel_rfl) (by kernel_rfl) (e := Extern.AbiNoEscape.same) (by kernel_rfl)]
  rw [Lib.run_noEscape]
  simp only [Result.andThen]
  rw [Oper.upon_value]
  go_wp2
  rw [Lib.run_from_unsafe w ⟨b, 0, none⟩ Try.underlying63 Try.underlying55 hj hsh sb_lies]
  simp only [Result.andThen]
  rw [Oper.upon_value]
  go_wp2
  go_end0
  exact ⟨rfl, rfl⟩

/-- copyCheck, at whatever builder. -/
theorem sb_check (B b : Nat) (bs : List Value) (w : World) (h : Lib.IsBuilderF 57 5 B b bs w) :
    Calls Try.prog 35 #[.pointer (some ⟨b, 0, none⟩)] w fun e w' => e = .returned (.tuple #[]) ∧ (Lib.BuilderAtF 57 5 B b (.pointer (some ⟨b, 0, none⟩)) bs w' ∧ Below B w w') := by
  rcases h with h | h
  · refine (sb_fresh b w h.cell0 h.shape h.frozen0).mono ?_
    rintro e w' ⟨rfl, rfl⟩
    exact ⟨rfl, h.used _, (Below.refl B w).setCell (p := ⟨b, 0, none⟩) h.1 _⟩
  · refine (sb_used b w h.cell0).mono ?_
    rintro e w' ⟨rfl, rfl⟩
    exact ⟨rfl, h, Below.refl B _⟩

set_option maxHeartbeats 2000000 in
set_option maxRecDepth 100000 in
/-- WriteByte. -/
theorem sb_write (B b : Nat) (bs : List Value) (c : Int) (w : World) (h : Lib.IsBuilderF 57 5 B b bs w) (hlen : bs.length + 1 ≤ 140737488355328) (hBw : B ≤ w.heap.size) :
    Calls Try.prog 32 #[.pointer (some ⟨b, 0, none⟩), .int .u8 c] w fun e w' => e = .returned .nilIface ∧ (Lib.IsBuilderF 57 5 B b (bs ++ [.int .u8 c]) w' ∧ Below B w w') := by
  obtain ⟨i0, hi, hz0, hz1, hz2⟩ := info_parts sb_byte
  go_enter Try.func32, Try.ntmps32
  go_wp2_with (go_at_call 35; refine (sb_check B b bs _ h).mono ?_)
  rintro e w1 ⟨rfl, h1, hb1⟩
  obtain ⟨hB, v, hbk, hown, hne⟩ := h1
  have c0 : w1.cell? ⟨b, 0, none⟩ = some (.pointer (some ⟨b, 0, none⟩)) := by rw [Lib.cell_of_heap hbk]; rfl
  have c1 : w1.cell? ⟨b, 1, none⟩ = some v := by rw [Lib.cell_of_heap hbk]; rfl
  go_wp2_with (at_builtin; refine wpList_append_ownF _ rfl _ _ 40 rfl B 5 i0 (.int .u8 0) 1 1 Try.underlying40 hi hz0 hz1 hz2 rfl (by decide) _ _ _ rfl (hown.alloc _) ⟨w1.heap.size, 0, none⟩ 1 1 [.int .u8 c] rfl rfl ?c1 ?c2 ?c3 ?c4 ?c5 ?_)
  case c1 =>
    intro j u hj
    match j, hj with
    | 0, hj => simp at hj; subst hj; simp [Addr.add]
  case c2 => intro u hu; simp at hu; subst hu; rfl
  case c3 => unfold maxLen; omega
  case c4 => omega
  case c5 => have := hb1.size; simp; omega
  intro v' w2 hown' hgrow _
  have hlt : b < w1.heap.size := by
    rcases Nat.lt_or_ge b w1.heap.size with h' | h'
    · exact h'
    · simp [Array.getElem?_eq_none h'] at hbk
  have hb2 : w2.heap[b]? = some (.cells #[.pointer (some ⟨b, 0, none⟩), v] 57 (0, 0)) := by
    rw [hgrow.block b (by simp; omega) (fun e => hne e.symm), Lib.alloc_old w1 _ b hlt]
    exact hbk
  have d0 : w2.cell? ⟨b, 0, none⟩ = some (.pointer (some ⟨b, 0, none⟩)) := by rw [Lib.cell_of_heap hb2]; rfl
  have d1 : w2.cell? ⟨b, 1, none⟩ = some v := by rw [Lib.cell_of_heap hb2]; rfl
  have f1 : w2.frozen? ⟨b, 1, none⟩ = false := Lib.frozen_of_heap hb2 1
  obtain ⟨g, cap, rfl⟩ : ∃ g cap, v' = .slice (some ⟨g, 0, none⟩) (bs.length + 1) cap := by
    rcases hown'.2 with ⟨_, h0⟩ | ⟨g, cap, cur, fz, hv, _⟩
    · omega
    · exact ⟨g, cap, hv⟩
  go_wp2
  go_ret
  refine ⟨rfl, .inr ?_, ?_⟩
  · exact Lib.BuilderAtF.put (T := 57) (e := 5) hB hb2 (bs' := bs ++ [.int .u8 c]) (by simpa using hown') (by decide)
  · exact ((hb1.alloc (by have := hb1.size; omega) _).grown hgrow (by have := hb1.size; simp; omega) (fun k hk => (hown.lt k hk).1)).setCell (p := ⟨b, 1, none⟩) hB _
end Go.Proofs
/-! Pr. -/
namespace Go.Proofs
open Go.RowKit

/-- The letters of the keys. -/
def letterB : List UInt8 := [48, 49, 50, 51, 52, 53, 54, 55, 56, 57, 43, 45, 86, 78, 69, 67, 75, 82, 80]
def lettersOf (l : List Int) : List UInt8 := l.map fun k => letterB.getD (k.toNat - 1) 0
def isKey (k : Int) : Bool := decide (1 ≤ k) && decide (k ≤ 19)
def printV (l : List Int) : Value := if l.all isKey then .tuple #[.string ⟨(lettersOf l).toArray⟩, .int .i64 0] else .tuple #[.string ⟨#[]⟩, .int .i64 2]
theorem printV_bad {l : List Int} {k : Nat} (hk : k < l.length) (h : isKey (l.getD k 0) = false) : printV l = .tuple #[.string ⟨#[]⟩, .int .i64 2] := by
  rw [printV, if_neg]
  intro ha
  have := List.all_eq_true.1 ha (l.getD k 0) (by rw [List.getD_eq_getElem?_getD, List.getElem?_eq_getElem hk]; exact List.getElem_mem _)
  rw [h] at this
  cases this

theorem letter_at : ∀ j : Fin 19, ((⟨#[48, 49, 50, 51, 52, 53, 54, 55, 56, 57, 43, 45, 86, 78, 69, 67, 75, 82, 80]⟩ : ByteArray)[j.1]'j.2) = letterB.getD j.1 0 := by decide

set_option maxHeartbeats 4000000 in
set_option maxRecDepth 1000000 in
theorem print_walk (l : List Int) (n cap : Nat) (A : Option Addr) (w : World) (hl : l.length = n) (hn : n ≤ 1099511627776) (hr : ∀ x ∈ l, 0 ≤ x ∧ x < 256)
    (hA : n = 0 ∨ ∃ r o, A = some ⟨r, o, none⟩ ∧ r < w.heap.size ∧ ∀ i, i < n → w.cell? ⟨r, o + i, none⟩ = some (.int .u8 (l.getD i 0))) :
    Calls Try.prog 16 #[.slice A n cap] w fun e w' => e = .returned (printV l) ∧ Below w.heap.size w w' := by
  go_enter Try.func16, Try.ntmps16
  go_wp2
  go_loopw [9] (fun i wr => ∃ (k : Nat), k ≤ n ∧ i = .int .i64 k ∧ Lib.IsBuilderF 57 5 w.heap.size w.heap.size (Lib.byteCells (lettersOf (l.take k))) wr ∧ Below w.heap.size w wr ∧ (l.take k).all isKey = true) (fun i _ => n - (RowKit.intOf i).toNat)
  case atStart =>
    refine ⟨0, by omega, rfl, ?_, (Below.refl _ w).alloc (Nat.le_refl _) _, by simp⟩
    exact Lib.IsBuilderF.of (Lib.fresh_isBuilder 57 5 w)
  case round =>
    obtain ⟨k, hk, rfl, hI, hbw, hall⟩ := hrel
    by_cases hkn : k < n
    · obtain ⟨r, o, rfl, hrw, hc⟩ := hA.resolve_left (by omega)
      have hx := hr (l.getD k 0) (by rw [List.getD_eq_getElem?_getD, List.getElem?_eq_getElem (by omega)]; exact List.getElem_mem _)
      have hcell : wr.cell? ⟨r, o + k, none⟩ = some (.int .u8 (l.getD k 0)) := by rw [hbw.cell (p := ⟨r, o + k, none⟩) hrw]; exact hc k hkn
      have htk : l.take (k + 1) = l.take k ++ [l.getD k 0] := by
        rw [List.take_add_one, List.getD_eq_getElem?_getD, List.getElem?_eq_getElem (by omega)]; simp
      have hlen : (Lib.byteCells (lettersOf (l.take k))).length + 1 ≤ 140737488355328 := by
        rw [Lib.byteCells_length]; simp [lettersOf]; omega
      have hbad := printV_bad (l := l) (k := k) (by omega)
      generalize l.getD k 0 = x at *
      by_cases hv : isKey x = true
      · have h1 : 1 ≤ x ∧ x ≤ 19 := by simpa [isKey] using hv
        have hx0 : ¬ x = 0 := by omega
        go_wp2_with (first
          | (go_at_call 32; refine (sb_write w.heap.size w.heap.size _ _ _ hI hlen (by have := hbw.size; omega)).mono ?_)
          | go_in)
        · rename_i hz
          simp [hx0] at hz
        all_goals try (exfalso; omega)
        rintro e W1 ⟨rfl, hI1, b1⟩
        have hb : ((⟨#[48, 49, 50, 51, 52, 53, 54, 55, 56, 57, 43, 45, 86, 78, 69, 67, 75, 82, 80]⟩ : ByteArray)[x.toNat - 1]'(by show x.toNat - 1 < 19; omega)) = letterB.getD (x.toNat - 1) 0 := letter_at ⟨x.toNat - 1, by omega⟩
        rw [hb] at hI1
        go_wp2
        go_roundw
        case rel =>
          refine ⟨k + 1, by omega, by simp, ?_, hbw.trans b1, ?_⟩
          · rw [htk, lettersOf, List.map_append, Lib.byteCells_append]
            exact hI1
          · rw [htk, List.all_append, hall]; simp [hv]
        case measure => simp [RowKit.intOf]; omega
      · have hp := hbad (by simpa using hv)
        have h1 : x = 0 ∨ 19 < x := by simp [isKey] at hv; omega
        rcases h1 with rfl | h1
        · go_wp2_with go_in
          go_ret2
          exact ⟨by rw [hp]; rfl, hbw⟩
        · have hx0 : ¬ x = 0 := by omega
          go_wp2_with go_in
          · go_ret2
            exact ⟨by rw [hp]; rfl, hbw⟩
          · rename_i hq _ _ _
            simp at hq
            omega
    · have hkn' : k = n := by omega
      subst hkn'
      rw [List.take_of_length_le (by omega)] at hI hall
      have hp : printV l = .tuple #[.string ⟨(lettersOf l).toArray⟩, .int .i64 0] := by rw [printV, if_pos hall]
      go_wp2_with (go_at_call 33; refine (Try.Builder_String_any_k w.heap.size w.heap.size (lettersOf l) _ hI (by have := hbw.size; omega)).mono ?_)
      rintro e W1 ⟨rfl, _, b1, _⟩
      go_wp2
      go_ret2
      exact ⟨by rw [hp]; rfl, hbw.trans b1⟩
end Go.Proofs
/-! Ka. -/
namespace Go.Proofs
open Go.E
theorem env : Env Try.prog Tenv := ⟨tok, by decide +kernel⟩
theorem branch_t {b : Bool} {T E : Prop} (h : b = true) (k : T) : branch b T E := by subst h; exact branch_true k
theorem branch_f {b : Bool} {T E : Prop} (h : b = false) (k : E) : branch b T E := by subst h; exact branch_false k

theorem wi {x : Int} (h0 : -9223372036854775808 ≤ x) (h1 : x ≤ 9223372036854775807) : IntKind.i64.wrap x = x := by
  rw [IntKind.wrap_i64]; omega
theorem wu8 {x : Int} (h0 : 0 ≤ x) (h1 : x < 256) : IntKind.u8.wrap x = x := by
  rw [IntKind.wrap_u8]; omega

def keyCodes : List Int := [16, 1, 2, 3, 4, 5, 6, 7, 8, 9, 26, 27, 17, 31, 28, 30, 25, 18, 20]
def codeOf (n : Int) : Int := if isKey n then keyCodes.getD (n.toNat - 1) 0 else 0
def codeE (n : Int) : Int := if isKey n then 0 else 2
def codeV (n : Int) : AVal := .tuple [.int .i64 (codeOf n), .int .i64 (codeE n)]

theorem valid_c {n : Int} (hn : 0 ≤ n) : callP Try.prog 28 [.int .u8 n] (· = .bool (isKey n)) := by
  refine callE_def env (fn := Try.f28) rfl (by decide) rfl ?_
  apply branch_intro <;> intro h
  · repeat refine branch_true ?_
    show Eqv _ _
    have : isKey n = decide (n ≤ 19) := by simp [isKey]; simp at h; omega
    rw [this]
    exact .up (.up (.refl _))
  · repeat refine branch_false ?_
    show Eqv _ _
    have : isKey n = false := by simp [isKey]; simp at h; omega
    rw [this]
    exact .up (.up (.refl _))
theorem may_c {n : Int} : callP Try.prog 29 [.int .u8 n] (· = .bool (isKey n)) := by
  refine callE_def env (fn := Try.f29) rfl (by decide) rfl ?_
  apply branch_intro <;> intro h
  · repeat refine branch_true ?_
    show Eqv _ _
    have : isKey n = decide (n ≤ 19) := by simp [isKey]; simp at h; omega
    rw [this]
    exact .up (.up (.refl _))
  · repeat refine branch_false ?_
    show Eqv _ _
    have : isKey n = false := by simp [isKey]; simp at h; omega
    rw [this]
    exact .up (.up (.refl _))

set_option maxRecDepth 4000 in
theorem codes_c : callP Try.prog 27 [] (· = .agg (keyCodes.map (AVal.int .i64))) := by
  refine callE_def env (fn := Try.f27) rfl (by decide) rfl ?_
  show Eqv _ _
  exact .up (.up (.refl _))
set_option maxRecDepth 4000 in
theorem rcodes_c : callP Try.prog 30 [] (· = ints .i64 keyCodes) := by
  refine callE_def env (fn := Try.f30) rfl (by decide) rfl ?_
  apply choice_l
  show Eqv _ _
  exact .up (.up (.refl _))
theorem letters_c : callP Try.prog 34 [] (· = .str ⟨#[48, 49, 50, 51, 52, 53, 54, 55, 56, 57, 43, 45, 86, 78, 69, 67, 75, 82, 80]⟩) := by
  refine callE_def env (fn := Try.f34) rfl (by decide) rfl ?_
  show Eqv _ _
  exact .up (.up (.refl _))

theorem key_range {n : Int} (h : isKey n = true) : 1 ≤ n ∧ n ≤ 19 := by simpa [isKey] using h
theorem code_at {i : Nat} (h : i < 19) : (keyCodes.map (AVal.int .i64))[i]? = some (.int .i64 (keyCodes.getD i 0)) := by
  rw [List.getElem?_map, List.getD_eq_getElem?_getD, List.getElem?_eq_getElem (show i < keyCodes.length from h)]
  rfl

theorem code_c {n : Int} (hn : 0 ≤ n) (hm : n ≤ 255) : callP Try.prog 10 [.int .u8 n] (· = codeV n) := by
  refine callE_def env (fn := Try.f10) rfl (by decide) rfl ?_
  refine callT_E (valid_c hn) rfl ?_
  apply branch_intro <;> intro h
  · show Eqv _ (codeV n)
    have : isKey n = false := by simpa using h
    rw [codeV, codeOf, codeE, this]
    exact .up (.up (.refl _))
  · have hk : isKey n = true := by simpa using h
    have hr := key_range hk
    refine callT_E codes_c rfl ?_
    have hw : IntKind.u8.wrap (n - 1) = n - 1 := wu8 (by omega) (by omega)
    conv => whnf
    rw [hw]
    apply need_intro
    · omega
    · refine partW_at (v := .int .i64 (keyCodes.getD (n.toNat - 1) 0)) rfl ?_ ?_
      · rw [show (n - 1).toNat * 1 = n.toNat - 1 by omega]
        exact code_at (by omega)
      · show Eqv _ (codeV n)
        rw [codeV, codeOf, codeE, hk]
        exact .up (.up (.refl _))
theorem rcode_c {n : Int} (hn : 0 ≤ n) (hm : n ≤ 255) : callP Try.prog 12 [.int .u8 n] (· = codeV n) := by
  refine callE_def env (fn := Try.f12) rfl (by decide) rfl ?_
  refine callT_E may_c rfl ?_
  apply branch_intro <;> intro h
  · show Eqv _ (codeV n)
    have : isKey n = false := by simpa using h
    rw [codeV, codeOf, codeE, this]
    exact .up (.up (.refl _))
  · have hk : isKey n = true := by simpa using h
    have hr := key_range hk
    refine callT_E rcodes_c rfl ?_
    have hw : IntKind.u8.wrap (n - 1) = n - 1 := wu8 (by omega) (by omega)
    conv => whnf
    rw [hw]
    apply need_intro
    · show 0 ≤ n - 1 ∧ n - 1 < 19
      omega
    · show Eqv _ (codeV n)
      rw [codeV, codeOf, codeE, hk]
      rw [show (n - 1).toNat = n.toNat - 1 by omega]
      exact .up (.up (.refl _))
end Go.Proofs
/-! Kb. -/
namespace Go.Proofs
open Go.E

/-- The first place of x. -/
def posI : List Int → Int → Option Nat
  | [], _ => none
  | y :: r, x => if y = x then some 0 else match posI r x with
    | some i => some (i + 1)
    | none => none
theorem posI_some : ∀ {l : List Int} {x : Int} {i : Nat}, i < l.length → l.getD i 0 = x → (∀ j, j < i → l.getD j 0 ≠ x) → posI l x = some i
  | [], _, _, h, _, _ => by simp at h
  | y :: r, x, 0, _, h, _ => by
    have : y = x := h
    rw [posI, if_pos this]
  | y :: r, x, i + 1, hi, h, hb => by
    have h0 : y ≠ x := hb 0 (by omega)
    rw [posI, if_neg h0, posI_some (l := r) (x := x) (i := i) (by simpa using hi) h fun j hj => hb (j + 1) (by omega)]
theorem posI_none : ∀ {l : List Int} {x : Int}, (∀ j, j < l.length → l.getD j 0 ≠ x) → posI l x = none
  | [], _, _ => rfl
  | y :: r, x, hb => by
    have h0 : y ≠ x := hb 0 (by simp)
    rw [posI, if_neg h0, posI_none (l := r) (x := x) fun j hj => hb (j + 1) (by simpa using hj)]
theorem posI_inv : ∀ {l : List Int} {x : Int} {i : Nat}, posI l x = some i → i < l.length ∧ l.getD i 0 = x
  | [], _, _, h => by cases h
  | y :: r, x, i, h => by
    rw [posI] at h
    split at h
    · rename_i hy
      cases h
      exact ⟨by simp, hy⟩
    · split at h
      · rename_i j hj
        cases h
        have := posI_inv (l := r) hj
        exact ⟨by simpa using this.1, this.2⟩
      · cases h

def foundV (l : List Int) (x : Int) : AVal := match posI l x with
  | some i => .tuple [.int .u8 (i + 1), .bool true]
  | none => .tuple [.int .u8 0, .bool false]
theorem foundV_closed (l : List Int) (x : Int) : (foundV l x).closed2 = true := by unfold foundV; split <;> rfl
def letterI : List Int := [48, 49, 50, 51, 52, 53, 54, 55, 56, 57, 43, 45, 86, 78, 69, 67, 75, 82, 80]

theorem key_c (code : Int) : callP Try.prog 9 [.int .i64 code] (· = foundV keyCodes code) := by
  refine callE_def env (fn := Try.f9) rfl (by decide) (foundV_closed _ _) ?_
  refine callT_E codes_c rfl ?_
  refine loop_inv (keep 18 [0, 6, 7])
    (fun i : Nat => slots 18 [(0, .int .i64 code), (6, .agg (keyCodes.map (AVal.int .i64))), (7, .int .i64 i)]) (fun _ => [])
    (fun i => i ≤ 19 ∧ ∀ j, j < i → keyCodes.getD j 0 ≠ code) (fun i => 19 - i) 0 ⟨by omega, by omega⟩ rfl rfl ?_
  rintro i ⟨hi, hno⟩
  apply branch_intro <;> intro h
  · have hi2 : i < 19 := by simp at h; omega
    apply need_intro
    · omega
    · refine partW_at (v := .int .i64 (keyCodes.getD i 0)) rfl ?_ ?_
      · rw [show (i : Int).toNat * 1 = i by omega]
        exact code_at hi2
      · apply branch_intro <;> intro h2
        · show Eqv _ (foundV keyCodes code)
          have h2 : keyCodes.getD i 0 = code := by simpa using h2
          rw [foundV, posI_some (show i < keyCodes.length from hi2) h2 hno]
          rw [show IntKind.u8.wrap (IntKind.i64.wrap ((i : Int) + 1)) = (i : Int) + 1 by rw [wi (by omega) (by omega)]; exact wu8 (by omega) (by omega)]
          exact .up (.up (.refl _))
        · have h2 : keyCodes.getD i 0 ≠ code := by simpa using h2
          refine ⟨i + 1, ⟨by omega, fun j hj => ?_⟩, by omega, ?_, rfl⟩
          · by_cases hji : j = i
            · subst hji; exact h2
            · exact hno j (by omega)
          · show [_, _, _, _, _, _, _, _, _, _, _, _, _, _, _, _, _, _] = _
            rw [wi (by omega) (by omega)]
            rfl
  · show Eqv _ (foundV keyCodes code)
    have hi2 : i = 19 := by simp at h; omega
    subst hi2
    rw [foundV, posI_none (l := keyCodes) hno]
    exact .up (.up (.refl _))

theorem rkey_c (code : Int) : callP Try.prog 13 [.int .i64 code] (· = foundV keyCodes code) := by
  refine callE_def env (fn := Try.f13) rfl (by decide) (foundV_closed _ _) ?_
  refine callT_E rcodes_c rfl ?_
  refine loop_inv (keep 22 [0, 4, 5])
    (fun i : Nat => slots 22 [(0, .int .i64 code), (4, ints .i64 keyCodes), (5, .int .i64 i)]) (fun _ => [])
    (fun i => i ≤ 19 ∧ ∀ j, j < i → keyCodes.getD j 0 ≠ code) (fun i => 19 - i) 0 ⟨by omega, by omega⟩ rfl rfl ?_
  rintro i ⟨hi, hno⟩
  apply branch_intro <;> intro h
  · have hi2 : i < 19 := by
      have : (i : Int) < 19 := of_decide_eq_true h
      omega
    apply need_intro
    · show 0 ≤ (i : Int) ∧ (i : Int) < 19
      omega
    · apply branch_intro <;> intro h2
      · show Eqv _ (foundV keyCodes code)
        have h2 : keyCodes.getD i 0 = code := by simpa using h2
        rw [foundV, posI_some (show i < keyCodes.length from hi2) h2 hno]
        rw [show IntKind.u8.wrap (IntKind.i64.wrap ((i : Int) + 1)) = (i : Int) + 1 by rw [wi (by omega) (by omega)]; exact wu8 (by omega) (by omega)]
        exact .up (.up (.refl _))
      · have h2 : keyCodes.getD i 0 ≠ code := by simpa using h2
        refine ⟨i + 1, ⟨by omega, fun j hj => ?_⟩, by omega, ?_, rfl⟩
        · by_cases hji : j = i
          · subst hji; exact h2
          · exact hno j (by omega)
        · show [_, _, _, _, _, _, _, _, _, _, _, _, _, _, _, _, _, _, _, _, _, _] = _
          rw [wi (by omega) (by omega)]
          rfl
  · show Eqv _ (foundV keyCodes code)
    have hi2 : i = 19 := by
      have : ¬ (i : Int) < 19 := of_decide_eq_false h
      omega
    subst hi2
    rw [foundV, posI_none (l := keyCodes) hno]
    exact .up (.up (.refl _))

theorem letterI_at : ∀ i : Fin 19, ((([48, 49, 50, 51, 52, 53, 54, 55, 56, 57, 43, 45, 86, 78, 69, 67, 75, 82, 80] : List UInt8).getD i.1 0).toNat : Int) = letterI.getD i.1 0 := by decide
theorem letter_c (c : Int) : callP Try.prog 31 [.int .u8 c] (· = foundV letterI c) := by
  refine callE_def env (fn := Try.f31) rfl (by decide) (foundV_closed _ _) ?_
  refine callT_E letters_c rfl ?_
  refine loop_inv (keep 21 [0, 4, 5])
    (fun i : Nat => slots 21 [(0, .int .u8 c), (4, .str ⟨#[48, 49, 50, 51, 52, 53, 54, 55, 56, 57, 43, 45, 86, 78, 69, 67, 75, 82, 80]⟩), (5, .int .i64 i)]) (fun _ => [])
    (fun i => i ≤ 19 ∧ ∀ j, j < i → letterI.getD j 0 ≠ c) (fun i => 19 - i) 0 ⟨by omega, by omega⟩ rfl rfl ?_
  rintro i ⟨hi, hno⟩
  apply branch_intro <;> intro h
  · have hi2 : i < 19 := by
      have : (i : Int) < 19 := of_decide_eq_true h
      omega
    apply need_intro
    · show 0 ≤ (i : Int) ∧ (i : Int) < 19
      omega
    · have hl : ((([48, 49, 50, 51, 52, 53, 54, 55, 56, 57, 43, 45, 86, 78, 69, 67, 75, 82, 80] : List UInt8).getD i 0).toNat : Int) = letterI.getD i 0 := letterI_at ⟨i, hi2⟩
      conv => whnf
      rw [show (i : Int).toNat = i by omega, hl]
      apply branch_intro <;> intro h2
      · show Eqv _ (foundV letterI c)
        have h2 : letterI.getD i 0 = c := by simpa using h2
        rw [foundV, posI_some (show i < letterI.length from hi2) h2 hno]
        rw [show IntKind.u8.wrap (IntKind.i64.wrap ((i : Int) + 1)) = (i : Int) + 1 by rw [wi (by omega) (by omega)]; exact wu8 (by omega) (by omega)]
        exact .up (.up (.refl _))
      · have h2 : letterI.getD i 0 ≠ c := by simpa using h2
        refine ⟨i + 1, ⟨by omega, fun j hj => ?_⟩, by omega, ?_, rfl⟩
        · by_cases hji : j = i
          · subst hji; exact h2
          · exact hno j (by omega)
        · show [_, _, _, _, _, _, _, _, _, _, _, _, _, _, _, _, _, _, _, _, _] = _
          rw [wi (by omega) (by omega)]
          rfl
  · show Eqv _ (foundV letterI c)
    have hi2 : i = 19 := by
      have : ¬ (i : Int) < 19 := of_decide_eq_false h
      omega
    subst hi2
    rw [foundV, posI_none (l := letterI) hno]
    exact .up (.up (.refl _))

theorem list_eq_of_getD {a b : List Int} (hl : a.length = b.length) (h : ∀ i, i < a.length → a.getD i 0 = b.getD i 0) : a = b := by
  refine List.ext_getElem hl fun i h1 h2 => ?_
  have := h i h1
  rw [List.getD_eq_getElem?_getD, List.getD_eq_getElem?_getD, List.getElem?_eq_getElem h1, List.getElem?_eq_getElem h2] at this
  exact this
def Short {α : Type} (l : List α) : Prop := l.length < 68719476736
theorem same_c {a b : List Int} (ha : Short a) : callP Try.prog 20 [ints .u8 a, ints .u8 b] (· = .bool (decide (a = b))) := by
  unfold Short at ha
  refine callE_def env (fn := Try.f20) rfl (by decide) rfl ?_
  refine loop_inv (keep 32 [0, 1, 5])
    (fun i : Nat => slots 32 [(0, ints .u8 a), (1, ints .u8 b), (5, .int .i64 i)])
    (fun _ => []) (fun i => i ≤ a.length ∧ i ≤ b.length ∧ ∀ j, j < i → a.getD j 0 = b.getD j 0) (fun i => a.length - i) 0 ⟨by omega, by omega, by omega⟩ rfl rfl ?_
  rintro i ⟨hi, hi', hv⟩
  have fin : ∀ P : Prop, (¬ (i < a.length ∧ i < b.length)) → (decide (a = b) = ((a.length : Int) == b.length)) := by
    intro _ hn
    by_cases hl : a.length = b.length
    · have : a = b := list_eq_of_getD hl fun j hj => hv j (by omega)
      simp [this]
    · have : a ≠ b := by rintro rfl; exact hl rfl
      rw [decide_eq_false this]
      have : (a.length : Int) ≠ b.length := by omega
      simp [this]
  apply branch_intro <;> intro h
  · have h : i < a.length := by simp at h; omega
    repeat refine branch_true ?_
    apply branch_intro <;> intro h'
    · have h' : i < b.length := by simp at h'; omega
      refine draw_intro [0, 1, 2, 3, 4, 5, 6, 7, 8] (by decide +kernel) ?_
      apply need_intro
      · omega
      apply need_intro
      · omega
      apply branch_intro <;> intro h2
      · show Eqv _ _
        have : a ≠ b := by
          rintro rfl
          simp at h2
        rw [decide_eq_false this]
        exact .up (.up (.refl _))
      · refine ⟨i + 1, ⟨by omega, by omega, fun j hj => ?_⟩, by omega, ?_, rfl⟩
        · by_cases hji : j = i
          · subst hji
            simpa using h2
          · exact hv j (by omega)
        · show [_, _, _, _, _, _, _, _, _, _, _, _, _, _, _, _, _, _, _, _, _, _, _, _, _, _, _, _, _, _, _, _] = _
          rw [wi (by omega) (by omega)]
          rfl
    · show Eqv _ _
      have h' : ¬ i < b.length := by simp at h'; omega
      rw [fin True (by omega)]
      exact .up (.up (.refl _))
  · have h : ¬ i < a.length := by simp at h; omega
    repeat refine branch_false ?_
    show Eqv _ _
    rw [fin True (by omega)]
    exact .up (.up (.refl _))
theorem lsame_c {a b : List Int} (ha : Short a) : callP Try.prog 22 [ints .u8 a, ints .u8 b] (· = .bool (decide (a = b))) := by
  unfold Short at ha
  refine callE_def env (fn := Try.f22) rfl (by decide) rfl ?_
  refine loop_inv (keep 32 [0, 1, 5])
    (fun i : Nat => slots 32 [(0, ints .u8 a), (1, ints .u8 b), (5, .int .i64 i)])
    (fun _ => []) (fun i => i ≤ a.length ∧ i ≤ b.length ∧ ∀ j, j < i → a.getD j 0 = b.getD j 0) (fun i => a.length - i) 0 ⟨by omega, by omega, by omega⟩ rfl rfl ?_
  rintro i ⟨hi, hi', hv⟩
  have fin : ∀ P : Prop, (¬ (i < a.length ∧ i < b.length)) → (decide (a = b) = ((a.length : Int) == b.length)) := by
    intro _ hn
    by_cases hl : a.length = b.length
    · have : a = b := list_eq_of_getD hl fun j hj => hv j (by omega)
      simp [this]
    · have : a ≠ b := by rintro rfl; exact hl rfl
      rw [decide_eq_false this]
      have : (a.length : Int) ≠ b.length := by omega
      simp [this]
  apply branch_intro <;> intro h
  · have h : i < a.length := by simp at h; omega
    repeat refine branch_true ?_
    apply branch_intro <;> intro h'
    · have h' : i < b.length := by simp at h'; omega
      refine draw_intro [0, 1, 2, 3, 4, 5, 6, 7, 8] (by decide +kernel) ?_
      apply need_intro
      · omega
      apply need_intro
      · omega
      apply branch_intro <;> intro h2
      · show Eqv _ _
        have : a ≠ b := by
          rintro rfl
          simp at h2
        rw [decide_eq_false this]
        exact .up (.up (.refl _))
      · refine ⟨i + 1, ⟨by omega, by omega, fun j hj => ?_⟩, by omega, ?_, rfl⟩
        · by_cases hji : j = i
          · subst hji
            simpa using h2
          · exact hv j (by omega)
        · show [_, _, _, _, _, _, _, _, _, _, _, _, _, _, _, _, _, _, _, _, _, _, _, _, _, _, _, _, _, _, _, _] = _
          rw [wi (by omega) (by omega)]
          rfl
    · show Eqv _ _
      have h' : ¬ i < b.length := by simp at h'; omega
      rw [fin True (by omega)]
      exact .up (.up (.refl _))
  · have h : ¬ i < a.length := by simp at h; omega
    repeat refine branch_false ?_
    show Eqv _ _
    rw [fin True (by omega)]
    exact .up (.up (.refl _))
end Go.Proofs
/-! Kc. -/
namespace Go.Proofs
open Go.E

/-- Leading digits, at most so many: the number, and how many. -/
def digF : Nat → List Int → Int → Int × Nat
  | 0, _, n => (n, 0)
  | _ + 1, [], n => (n, 0)
  | f + 1, k :: r, n => if 1 ≤ k ∧ k ≤ 10 then ((digF f r (10 * n + (k - 1))).1, (digF f r (10 * n + (k - 1))).2 + 1) else (n, 0)
def digitsV (l : List Int) : AVal := .tuple [.int .i64 (digF 9 l 0).1, .int .i64 (digF 9 l 0).2]

structure DigSt where
  i : Nat
  n : Int
def DigOk (l : List Int) (s : DigSt) : Prop := s.i ≤ l.length ∧ s.i ≤ 9 ∧ 0 ≤ s.n ∧ s.n < 10 ^ s.i ∧ digF 9 l 0 = ((digF (9 - s.i) (l.drop s.i) s.n).1, (digF (9 - s.i) (l.drop s.i) s.n).2 + s.i)
theorem pow9 {i : Nat} (h : i ≤ 9) : (10 : Int) ^ i ≤ 1000000000 := by
  match i, h with
  | 0, _ | 1, _ | 2, _ | 3, _ | 4, _ | 5, _ | 6, _ | 7, _ | 8, _ | 9, _ => decide
theorem drop_at {l : List Int} {i : Nat} (h : i < l.length) : l.drop i = l.getD i 0 :: l.drop (i + 1) := by
  rw [List.drop_eq_getElem_cons h, List.getD_eq_getElem?_getD, List.getElem?_eq_getElem h]
  rfl
theorem dig_stop {l : List Int} {s : DigSt} (h : DigOk l s) (hs : s.i = 9 ∨ s.i = l.length ∨ ¬ (1 ≤ l.getD s.i 0 ∧ l.getD s.i 0 ≤ 10)) : digitsV l = .tuple [.int .i64 s.n, .int .i64 s.i] := by
  obtain ⟨i, n⟩ := s
  obtain ⟨h1, h2, h3, h4, h5⟩ := h
  simp only at h1 h2 h3 h4 h5 hs ⊢
  have : digF (9 - i) (l.drop i) n = (n, 0) := by
    by_cases h9 : i = 9
    · subst h9; rfl
    · obtain ⟨f, hf⟩ : ∃ f, 9 - i = f + 1 := ⟨8 - i, by omega⟩
      rw [hf]
      by_cases hl : i = l.length
      · subst hl
        rw [List.drop_length]
        rfl
      · rw [drop_at (by omega), digF, if_neg]
        rcases hs with hs | hs | hs
        · exact absurd hs h9
        · exact absurd hs hl
        · exact hs
  rw [digitsV, h5, this]
  simp
theorem dig_go {l : List Int} {s : DigSt} (h : DigOk l s) (h9 : s.i ≠ 9) (hl : s.i < l.length) (hd : 1 ≤ l.getD s.i 0 ∧ l.getD s.i 0 ≤ 10) : DigOk l ⟨s.i + 1, 10 * s.n + (l.getD s.i 0 - 1)⟩ := by
  obtain ⟨i, n⟩ := s
  obtain ⟨h1, h2, h3, h4, h5⟩ := h
  simp only at h1 h2 h3 h4 h5 h9 hl hd ⊢
  refine ⟨by simp only; omega, by simp only; omega, by simp only; omega, ?_, ?_⟩
  · simp only [Int.pow_succ]; omega
  · obtain ⟨f, hf⟩ : ∃ f, 9 - i = f + 1 := ⟨8 - i, by omega⟩
    rw [h5, hf, drop_at hl, digF, if_pos hd]
    simp only [show 9 - (i + 1) = f by omega]
    congr 1
    omega

theorem digits_c {l : List Int} (hs : Short l) : callP Try.prog 18 [ints .u8 l] (· = digitsV l) := by
  unfold Short at hs
  refine callE_def env (fn := Try.f18) rfl (by decide) rfl ?_
  refine loop_inv (keep 36 [0, 4, 7, 8, 9])
    (fun s : DigSt => slots 36 [(0, ints .u8 l), (4, .int .i64 s.n), (7, ints .u8 l), (8, .int .i64 l.length), (9, .int .i64 s.i)]) (fun _ => [])
    (DigOk l) (fun s => l.length - s.i) ⟨0, 0⟩ ⟨by simp, by simp, by simp, by simp, by simp⟩ rfl rfl ?_
  intro s hok
  have hok' := hok
  obtain ⟨i, n⟩ := s
  obtain ⟨h1, h2, h3, h4, -⟩ := hok'
  have h10 := pow9 h2
  simp only at h1 h2 h3 h4 h10
  apply branch_intro <;> intro h
  · have hi : i < l.length := by simp at h; omega
    apply need_intro
    · dsimp only; omega
    conv => whnf
    rw [show ((i : Int)).toNat = i by omega]
    apply branch_intro <;> intro h9
    · have h9 : i = 9 := by simp at h9; omega
      repeat refine branch_true ?_
      show Eqv _ (digitsV l)
      rw [dig_stop hok (.inl h9)]
      exact .up (.up (.refl _))
    · have h9 : i ≠ 9 := by simp at h9; omega
      repeat refine branch_false ?_
      apply branch_intro <;> intro hk
      · have hk : l.getD i 0 < 1 := by simpa using hk
        repeat refine branch_true ?_
        show Eqv _ (digitsV l)
        rw [dig_stop hok (.inr (.inr (by simp only; omega)))]
        exact .up (.up (.refl _))
      · have hk : ¬ l.getD i 0 < 1 := by simpa using hk
        repeat refine branch_false ?_
        apply branch_intro <;> intro hk2
        · have hk2 : l.getD i 0 > 10 := by simpa using hk2
          repeat refine branch_true ?_
          show Eqv _ (digitsV l)
          rw [dig_stop hok (.inr (.inr (by simp only; omega)))]
          exact .up (.up (.refl _))
        · have hk2 : ¬ l.getD i 0 > 10 := by simpa using hk2
          have hd : 1 ≤ l.getD i 0 ∧ l.getD i 0 ≤ 10 := by omega
          refine ⟨_, dig_go hok h9 hi hd, by simp only; omega, ?_, rfl⟩
          show [_, _, _, _, _, _, _, _, _, _, _, _, _, _, _, _, _, _, _, _, _, _, _, _, _, _, _, _, _, _, _, _, _, _, _, _] = _
          generalize l.getD i 0 = x at hd
          rw [wu8 (x := x - 1) (by omega) (by omega), wi (x := x - 1) (by omega) (by omega), wi (x := 10 * n) (by omega) (by omega), wi (x := 10 * n + (x - 1)) (by omega) (by omega), wi (x := (i : Int) + 1) (by omega) (by omega)]
          rfl
  · have hi : i = l.length := by simp at h; omega
    show Eqv _ (digitsV l)
    rw [dig_stop hok (.inr (.inl hi))]
    rw [hi]
    exact .up (.up (.refl _))

theorem rdigits_c {l : List Int} (hs : Short l) : callP Try.prog 19 [ints .u8 l] (· = digitsV l) := by
  unfold Short at hs
  refine callE_def env (fn := Try.f19) rfl (by decide) rfl ?_
  refine loop_inv (keep 41 [0, 4, 5])
    (fun s : DigSt => slots 41 [(0, ints .u8 l), (4, .int .i64 s.n), (5, .int .i64 s.i)]) (fun _ => [])
    (DigOk l) (fun s => l.length - s.i) ⟨0, 0⟩ ⟨by simp, by simp, by simp, by simp, by simp⟩ rfl rfl ?_
  intro s hok
  have hok' := hok
  obtain ⟨i, n⟩ := s
  obtain ⟨h1, h2, h3, h4, -⟩ := hok'
  have h10 := pow9 h2
  simp only at h1 h2 h3 h4 h10
  have et : ((i : Int)).toNat = i := by omega
  have stop : (i = 9 ∨ i = l.length ∨ ¬ (1 ≤ l.getD i 0 ∧ l.getD i 0 ≤ 10)) → retE (digitsV l) (.tuple [.int .i64 n, .int .i64 i]) [] := by
    intro h
    show Eqv _ (digitsV l)
    rw [dig_stop hok h]
    exact .up (.up (.refl _))
  apply branch_intro <;> intro h
  · have hi : i < l.length := by simp at h; omega
    repeat refine branch_true ?_
    apply branch_intro <;> intro h9
    · have h9 : i ≠ 9 := by simp at h9; omega
      repeat refine branch_true ?_
      apply need_intro
      · dsimp only; omega
      repeat refine branch_true ?_
      conv => whnf
      rw [et]
      apply branch_intro <;> intro hk
      · have hk : 1 ≤ l.getD i 0 := by simpa using hk
        repeat refine branch_true ?_
        apply need_intro
        · dsimp only; omega
        repeat refine branch_true ?_
        conv => whnf
        rw [et]
        apply branch_intro <;> intro hk2
        · have hk2 : l.getD i 0 ≤ 10 := by simpa using hk2
          have hd : 1 ≤ l.getD i 0 ∧ l.getD i 0 ≤ 10 := by omega
          apply need_intro
          · dsimp only; omega
          refine ⟨_, dig_go hok h9 hi hd, by simp only; omega, ?_, rfl⟩
          show [_, _, _, _, _, _, _, _, _, _, _, _, _, _, _, _, _, _, _, _, _, _, _, _, _, _, _, _, _, _, _, _, _, _, _, _, _, _, _, _, _] = _
          simp only [et]
          generalize l.getD i 0 = x at hd
          rw [wu8 (x := x - 1) (by omega) (by omega), wi (x := x - 1) (by omega) (by omega), wi (x := 10 * n) (by omega) (by omega), wi (x := 10 * n + (x - 1)) (by omega) (by omega), wi (x := (i : Int) + 1) (by omega) (by omega)]
          rfl
        · have hk2 : ¬ l.getD i 0 ≤ 10 := by simpa using hk2
          exact stop (.inr (.inr (by omega)))
      · have hk : ¬ 1 ≤ l.getD i 0 := by simpa using hk
        repeat refine branch_false ?_
        exact stop (.inr (.inr (by omega)))
    · have h9 : i = 9 := by simp at h9; omega
      repeat refine branch_false ?_
      exact stop (.inl h9)
  · have hi : i = l.length := by simp at h; omega
    repeat refine branch_false ?_
    exact stop (.inr (.inl hi))
end Go.Proofs
/-! Kd. -/
namespace Go.Proofs
open Go.E

theorem ints_of_row {kk : IntKind} (l : List Int) : rowsInts kk l.length (irow kk l) = l := by
  refine List.ext_getElem (rowsInts_len kk _ _) fun i h1 h2 => ?_
  have hk : sameKind kk kk = true := sameKind_iff.2 rfl
  simp [rowsInts, irow, rowInt, hk, List.getElem?_eq_getElem h2]
theorem isRow_irow (kk : IntKind) (m : Nat) (l : List Int) : isRow kk m (irow kk l) := fun _ _ => ⟨_, rfl⟩
theorem snoc_row {kk : IntKind} (l : List Int) (x : Int) : List.drop 0 l ++ rowsInts kk 1 (irow kk [x]) = l ++ [x] := by
  have hk : sameKind kk kk = true := sameKind_iff.2 rfl
  simp [rowsInts, irow, rowInt, hk]

def pushL (q : List Int) (k : Int) : List Int := if isKey k = true ∧ q.length < 8 then q ++ [k] else []
def pushE (q : List Int) (k : Int) : Int := if isKey k = true then (if q.length < 8 then 0 else 13) else 2
def pushV (q : List Int) (k : Int) : AVal := .tuple [ints .u8 (pushL q k), .int .i64 (pushE q k)]

theorem push_c {q : List Int} {k : Int} (hs : Short q) (hk : 0 ≤ k) : callP Try.prog 23 [ints .u8 q, .int .u8 k] (· = pushV q k) := by
  unfold Short at hs
  refine callE_def env (fn := Try.f23) rfl (by decide) rfl ?_
  refine callT_E (valid_c hk) rfl ?_
  apply branch_intro <;> intro h
  · have h : isKey k = false := by simpa using h
    show Eqv _ (pushV q k)
    rw [pushV, pushL, pushE, if_neg (by simp [h]), if_neg (by simp [h])]
    exact .tuple (.cons (.up (.nil _ _)) (.cons (.up (.refl _)) .nil))
  · have h : isKey k = true := by simpa using h
    apply branch_intro <;> intro h8
    · have h8 : ¬ q.length < 8 := by simp at h8; omega
      show Eqv _ (pushV q k)
      rw [pushV, pushL, pushE, if_neg (by simp [h8]), if_pos h, if_neg h8]
      exact .tuple (.cons (.up (.nil _ _)) (.cons (.up (.refl _)) .nil))
    · have h8 : q.length < 8 := by simp at h8; omega
      apply need_intro
      · show q.length * 1 ≤ _
        omega
      apply need_intro
      · exact isRow_irow _ _ _
      apply choice_r
      apply choice_l
      apply need_intro
      · show (q.length + 1) * 1 ≤ _
        omega
      apply need_intro
      · exact ⟨by rw [ints_of_row]; simp, isRow_irow _ _ _⟩
      apply need_intro
      · rw [ints_of_row, snoc_row]; simp
      · conv => whnf
        rw [ints_of_row, snoc_row]
        rw [pushV, pushL, pushE, if_pos ⟨h, h8⟩, if_pos h, if_pos h8]
        refine .tuple (.cons (.up (eqv_ints (by simp) fun i hi => rfl)) (.cons (.up (.refl _)) .nil))

theorem rpush_c {q : List Int} {k : Int} (hs : Short q) : callP Try.prog 24 [ints .u8 q, .int .u8 k] (· = pushV q k) := by
  unfold Short at hs
  refine callE_def env (fn := Try.f24) rfl (by decide) rfl ?_
  refine callT_E may_c rfl ?_
  apply branch_intro <;> intro h
  · have h : isKey k = false := by simpa using h
    show Eqv _ (pushV q k)
    rw [pushV, pushL, pushE, if_neg (by simp [h]), if_neg (by simp [h])]
    exact .tuple (.cons (.up (.nil _ _)) (.cons (.up (.refl _)) .nil))
  · have h : isKey k = true := by simpa using h
    apply branch_intro <;> intro h8
    · have h8 : ¬ q.length < 8 := by simp at h8; omega
      show Eqv _ (pushV q k)
      rw [pushV, pushL, pushE, if_neg (by simp [h8]), if_pos h, if_neg h8]
      exact .tuple (.cons (.up (.nil _ _)) (.cons (.up (.refl _)) .nil))
    · have h8 : q.length < 8 := by simp at h8; omega
      apply need_intro
      · show q.length * 1 ≤ _
        omega
      apply need_intro
      · exact isRow_irow _ _ _
      apply choice_r
      apply choice_l
      apply need_intro
      · show (q.length + 1) * 1 ≤ _
        omega
      apply need_intro
      · exact ⟨by rw [ints_of_row]; simp, isRow_irow _ _ _⟩
      apply need_intro
      · rw [ints_of_row, snoc_row]; simp
      · conv => whnf
        rw [ints_of_row, snoc_row]
        rw [pushV, pushL, pushE, if_pos ⟨h, h8⟩, if_pos h, if_pos h8]
        refine .tuple (.cons (.up (eqv_ints (by simp) fun i hi => rfl)) (.cons (.up (.refl _)) .nil))

def popV : List Int → AVal
  | [] => .tuple [.int .u8 0, ints .u8 [], .bool false]
  | k :: r => .tuple [.int .u8 k, ints .u8 r, .bool true]
theorem popV_closed (q : List Int) : (popV q).closed2 = true := by cases q <;> rfl

theorem pop_c {q : List Int} (hs : Short q) : callP Try.prog 25 [ints .u8 q] (· = popV q) := by
  unfold Short at hs
  refine callE_def env (fn := Try.f25) rfl (by decide) (popV_closed _) ?_
  apply branch_intro <;> intro h
  · have h : q = [] := List.eq_nil_of_length_eq_zero (by simp at h; simp [h])
    subst h
    show Eqv _ (popV [])
    exact .tuple (.cons (.up (.refl _)) (.cons (.up (.nil _ _)) (.cons (.up (.refl _)) .nil)))
  · obtain ⟨k, r, rfl⟩ : ∃ k r, q = k :: r := by
      cases q with
      | nil => simp at h
      | cons k r => exact ⟨k, r, rfl⟩
    simp only [List.length_cons] at hs
    refine draw_intro [0, 1, 2, 3, 4, 5, 6, 7, 8] (by decide +kernel) ?_
    apply need_intro
    · simp only [List.length_cons]; omega
    apply need_intro
    · simp only [List.length_cons]; omega
    apply need_intro
    · show (r.length + 1 - 1) * 1 ≤ _
      omega
    apply need_intro
    · exact fun _ _ => ⟨_, rfl⟩
    apply choice_l
    show Eqv _ (popV (k :: r))
    refine .tuple (.cons (.up (.refl _)) (.cons (.up (eqv_ints (by simp) fun i hi => ?_)) (.cons (.up (.refl _)) .nil)))
    show [AVal.int .u8 ((k :: r).getD (1 + i) 0)] = [AVal.int .u8 (r.getD i 0)]
    rw [Nat.add_comm]
    rfl
theorem rpop_c {q : List Int} (hs : Short q) : callP Try.prog 26 [ints .u8 q] (· = popV q) := by
  unfold Short at hs
  refine callE_def env (fn := Try.f26) rfl (by decide) (popV_closed _) ?_
  apply branch_intro <;> intro h
  · have h : q = [] := List.eq_nil_of_length_eq_zero (by simp at h; simp [h])
    subst h
    show Eqv _ (popV [])
    exact .tuple (.cons (.up (.refl _)) (.cons (.up (.nil _ _)) (.cons (.up (.refl _)) .nil)))
  · obtain ⟨k, r, rfl⟩ : ∃ k r, q = k :: r := by
      cases q with
      | nil => simp at h
      | cons k r => exact ⟨k, r, rfl⟩
    simp only [List.length_cons] at hs
    apply need_intro
    · simp only [List.length_cons]; omega
    apply need_intro
    · show (r.length + 1 - 1) * 1 ≤ _
      omega
    apply need_intro
    · exact fun _ _ => ⟨_, rfl⟩
    apply choice_l
    apply need_intro
    · simp only [List.length_cons]; omega
    show Eqv _ (popV (k :: r))
    refine .tuple (.cons (.up (.refl _)) (.cons (.up (eqv_ints (by simp) fun i hi => ?_)) (.cons (.up (.refl _)) .nil)))
    show [AVal.int .u8 ((k :: r).getD (1 + i) 0)] = [AVal.int .u8 (r.getD i 0)]
    rw [Nat.add_comm]
    rfl

/-- A key for each byte. -/
def keysOf (l : List Int) : List Int := l.map fun x => 1 + x % 19
theorem keys_take {l : List Int} {i : Nat} (h : i < l.length) : keysOf (l.take (i + 1)) = keysOf (l.take i) ++ [1 + l.getD i 0 % 19] := by
  rw [keysOf, keysOf, List.take_add_one, List.map_append, List.getD_eq_getElem?_getD, List.getElem?_eq_getElem h]
  rfl
theorem keysOf_len (l : List Int) : (keysOf l).length = l.length := by simp [keysOf]
def Bytes (l : List Int) : Prop := ∀ x ∈ l, 0 ≤ x ∧ x < 256
theorem byte_at {l : List Int} (h : Bytes l) (i : Nat) : 0 ≤ l.getD i 0 ∧ l.getD i 0 < 256 := by
  rw [List.getD_eq_getElem?_getD]
  by_cases hi : i < l.length
  · rw [List.getElem?_eq_getElem hi]; exact h _ (List.getElem_mem _)
  · rw [List.getElem?_eq_none (by omega)]; simp

theorem keys_c {l : List Int} (hs : Short l) (hb : Bytes l) : callP Try.prog 21 [ints .u8 l] (· = ints .u8 (keysOf l)) := by
  unfold Short at hs
  refine callE_def env (fn := Try.f21) rfl (by decide) rfl ?_
  refine loop_weak (fun i : Nat => slots 21 [(0, ints .u8 l), (3, .slice ⟨0, 0, 0⟩ i), (4, .int .i64 i)]) (fun i => [.ints .u8 (keysOf (l.take i))])
    (fun i => i ≤ l.length) (fun i => l.length - i) 0 (by omega) ((weak_nil 3 (.ints .u8 []) rfl rfl).trans (weak_keep (keep 21 [0, 3, 4]) [0] (by decide) rfl rfl)) ?_
  intro i hi
  apply branch_intro <;> intro h
  · have hlt : i < l.length := by simp at h; omega
    have hx := byte_at hb i
    have et : ((i : Int)).toNat = i := by omega
    have hlen : (keysOf (l.take i)).length = i := by rw [keysOf_len]; simp; omega
    apply need_intro
    · omega
    apply need_intro
    · decide
    apply choice_l
    apply need_intro
    · show (i + 1) * 1 ≤ _
      omega
    apply need_intro
    · exact ⟨by rw [hlen]; simp, isRow_irow _ _ _⟩
    refine ⟨i + 1, by omega, by omega, weak_keep (keep 21 [0, 3, 4]) [0] rfl ?_ ?_⟩
    · show [_, _, _, _, _, _, _, _, _, _, _, _, _, _, _, _, _, _, _, _, _] = _
      rw [wi (by omega) (by omega)]
      rfl
    · have e1 : IntKind.u8.wrap (1 + (l.getD ((i : Int)).toNat 0).tmod 19) = 1 + l.getD i 0 % 19 := by
        rw [et, Int.tmod_eq_emod_of_nonneg (by omega)]
        exact wu8 (by omega) (by omega)
      rw [keys_take hlt]
      show [Blk.ints _ _] = _
      rw [e1, snoc_row]
  · have hlt : i = l.length := by simp at h; omega
    subst hlt
    rw [List.take_of_length_le (Nat.le_refl _)]
    apply need_intro
    · rw [keysOf_len]; omega
    show Eqv _ _
    exact .up (.up (eqv_ints (keysOf_len l).symm fun i hi => rfl))
end Go.Proofs
/-! Ke. -/
namespace Go.Proofs
open Go.E

def printA (l : List Int) : AVal := if l.all isKey then .tuple [.str ⟨(lettersOf l).toArray⟩, .int .i64 0] else .tuple [.str ⟨#[]⟩, .int .i64 2]
theorem printA_flat (l : List Int) : (printA l).flat = true := by unfold printA; split <;> rfl

theorem print_c {l : List Int} (hs : Short l) (hb : Bytes l) : callP Try.prog 16 [ints .u8 l] (· = printA l) := by
  refine callP_of_walk (Go.E.enters_of (fn := Try.f16) rfl rfl (by decide)) ?_
  intro c us hh ha
  obtain ⟨u, rfl⟩ : ∃ u, us = #[u] := by
    have := ha.1
    cases us with
    | mk us =>
      match us, this with
      | [u], _ => exact ⟨u, rfl⟩
  obtain ⟨A, cap, rfl, hA⟩ := ints_inv (ha.2 0 _ u rfl rfl)
  refine (print_walk l l.length cap A c.w rfl (by unfold Short at hs; omega) hb hA).mono ?_
  rintro e w' ⟨rfl, hbw⟩
  refine ⟨_, printA l, rfl, hbw, printA_flat l, fun c' => ?_, rfl⟩
  unfold printV printA
  split
  · exact .tuple rfl fun i v u h1 h2 => by
      match i with
      | 0 => cases h1; cases h2; exact .mk_str _ _
      | 1 => cases h1; cases h2; exact .mk_int _ _ _
      | i + 2 => simp at h1
  · exact .tuple rfl fun i v u h1 h2 => by
      match i with
      | 0 => cases h1; cases h2; exact .mk_str _ _
      | 1 => cases h1; cases h2; exact .mk_int _ _ _
      | i + 2 => simp at h1

def lettersI (l : List Int) : List Int := l.map fun k => letterI.getD (k.toNat - 1) 0
theorem take_snoc {l : List Int} {i : Nat} (h : i < l.length) : l.take (i + 1) = l.take i ++ [l.getD i 0] := by
  rw [List.take_add_one, List.getD_eq_getElem?_getD, List.getElem?_eq_getElem h]
  rfl
theorem letterBI : ∀ i : Fin 19, UInt8.ofNat (letterI.getD i.1 0).toNat = letterB.getD i.1 0 := by decide
theorem bytes_letters {l : List Int} (h : l.all isKey = true) : bytesI (lettersI l) = ⟨(lettersOf l).toArray⟩ := by
  rw [bytesI, lettersI, lettersOf, List.map_map]
  congr 2
  refine List.map_congr_left fun k hk => ?_
  have := key_range (List.all_eq_true.1 h k hk)
  exact letterBI ⟨k.toNat - 1, by omega⟩
theorem all_bad {l : List Int} {i : Nat} (h : i < l.length) (hk : isKey (l.getD i 0) = false) : l.all isKey = false := by
  rw [← Bool.not_eq_true]
  intro ha
  have := List.all_eq_true.1 ha (l.getD i 0) (by rw [List.getD_eq_getElem?_getD, List.getElem?_eq_getElem h]; exact List.getElem_mem _)
  rw [hk] at this
  cases this

theorem rprint_c {l : List Int} (hs : Short l) (hb : Bytes l) : callP Try.prog 17 [ints .u8 l] (· = printA l) := by
  unfold Short at hs
  refine callE_def env (fn := Try.f17) rfl (by decide) (flat_closed (printA_flat l)) ?_
  refine loop_weak (fun i : Nat => slots 30 [(0, ints .u8 l), (4, .slice ⟨0, 0, 0⟩ i), (5, .int .i64 i)]) (fun i => [.ints .u8 (lettersI (l.take i))])
    (fun i => i ≤ l.length ∧ (l.take i).all isKey = true) (fun i => l.length - i) 0 ⟨by omega, by simp⟩ ((weak_nil 4 (.ints .u8 []) rfl rfl).trans (weak_keep (keep 30 [0, 4, 5]) [0] rfl rfl rfl)) ?_
  rintro i ⟨hi, hall⟩
  have et : ((i : Int)).toNat = i := by omega
  have hlen : (lettersI (l.take i)).length = i := by simp [lettersI]; omega
  apply branch_intro <;> intro h
  · have hlt : i < l.length := by simp at h; omega
    have hx := byte_at hb i
    apply need_intro
    · omega
    conv => whnf
    rw [et]
    refine callT_E may_c rfl ?_
    apply branch_intro <;> intro hk
    · have hk : isKey (l.getD i 0) = false := by simpa using hk
      show Eqv _ (printA l)
      rw [printA, if_neg (by rw [all_bad hlt hk]; simp)]
      exact .up (.up (.refl _))
    · have hk : isKey (l.getD i 0) = true := by simpa using hk
      have hr := key_range hk
      refine draw_intro [0, 1, 2, 3, 4, 5, 6, 7, 8, 9, 10] (by decide +kernel) ?_
      refine ⟨_, ⟨letters_c, rfl⟩, ?_⟩
      apply need_intro
      · omega
      conv => whnf
      rw [et]
      generalize hX : l.getD i 0 = x at *
      have hw : IntKind.u8.wrap (x - 1) = x - 1 := wu8 (by omega) (by omega)
      rw [hw]
      apply need_intro
      · show 0 ≤ x - 1 ∧ x - 1 < 19
        omega
      apply choice_l
      apply need_intro
      · show (i + 1) * 1 ≤ _
        omega
      apply need_intro
      · exact ⟨by rw [hlen]; simp, isRow_irow _ _ _⟩
      have hl : ((([48, 49, 50, 51, 52, 53, 54, 55, 56, 57, 43, 45, 86, 78, 69, 67, 75, 82, 80] : List UInt8).getD (x.toNat - 1) 0).toNat : Int) = letterI.getD (x.toNat - 1) 0 := letterI_at ⟨x.toNat - 1, by omega⟩
      refine ⟨i + 1, ⟨by omega, ?_⟩, by omega, weak_keep (keep 30 [0, 4, 5]) [0] rfl ?_ ?_⟩
      · rw [take_snoc hlt, List.all_append, hall, hX]; simp [hk]
      · show [_, _, _, _, _, _, _, _, _, _, _, _, _, _, _, _, _, _, _, _, _, _, _, _, _, _, _, _, _, _] = _
        rw [wi (by omega) (by omega)]
        rfl
      · show [Blk.ints _ _] = _
        have e : ∀ n : Nat, (({ data := #[48, 49, 50, 51, 52, 53, 54, 55, 56, 57, 43, 45, 86, 78, 69, 67, 75, 82, 80] } : ByteArray).data.toList.getD n 0) = ([48, 49, 50, 51, 52, 53, 54, 55, 56, 57, 43, 45, 86, 78, 69, 67, 75, 82, 80] : List UInt8).getD n 0 := fun _ => rfl
        rw [e, show (x - 1).toNat = x.toNat - 1 by omega, hl, snoc_row, take_snoc hlt, hX]
        simp [lettersI]
  · have hlt : i = l.length := by simp at h; omega
    subst hlt
    rw [List.take_of_length_le (Nat.le_refl _)] at hall hlen ⊢
    apply need_intro
    · omega
    apply need_intro
    · exact fun _ _ => ⟨_, rfl⟩
    show Eqv _ (printA l)
    rw [printA, if_pos hall]
    have e : rowsInts .u8 l.length (fun i => [AVal.int .u8 ((lettersI l).getD (0 + i) 0)]) = lettersI l := by
      have := ints_of_row (kk := .u8) (lettersI l)
      rw [hlen] at this
      rw [← this]
      congr 1
      funext i
      rw [Nat.zero_add, this]
      rfl
    rw [e, bytes_letters hall]
    exact .up (.up (.refl _))
end Go.Proofs
/-! Kf. -/
namespace Go.Proofs
open Go.E

/-- The keys of a string of letters. -/
def parseL : List UInt8 → Nat → List Int → List Int × Int × Int
  | [], _, acc => (acc, 0, 0)
  | b :: r, i, acc => if b.toNat = 32 then parseL r (i + 1) acc else match posI letterI b.toNat with
    | some k => parseL r (i + 1) (acc ++ [(k : Int) + 1])
    | none => ([], i, 5)
def parse (s : ByteArray) : List Int × Int × Int := if 256 < s.size then ([], 0, 4) else parseL s.data.toList 0 []
def parseV (s : ByteArray) : AVal := .tuple [ints .u8 (parse s).1, .int .i64 (parse s).2.1, .int .i64 (parse s).2.2]

structure PaSt where
  i : Nat
  acc : List Int
def PaOk (s : ByteArray) (t : PaSt) : Prop := t.i ≤ s.size ∧ t.acc.length ≤ t.i ∧ parse s = parseL (s.data.toList.drop t.i) t.i t.acc

theorem size_list (s : ByteArray) : s.data.toList.length = s.size := Array.length_toList
def byteAt (s : ByteArray) (i : Nat) : UInt8 := s.data.toList.getD i 0
theorem drop_byte {s : ByteArray} {i : Nat} (h : i < s.size) : s.data.toList.drop i = byteAt s i :: s.data.toList.drop (i + 1) := by
  rw [← size_list] at h
  rw [List.drop_eq_getElem_cons h, byteAt, List.getD_eq_getElem?_getD, List.getElem?_eq_getElem h]
  rfl
theorem byte_get {s : ByteArray} {i : Nat} (h : i < s.size) : s[i]'h = byteAt s i := by
  rw [byteAt, List.getD_eq_getElem?_getD, List.getElem?_eq_getElem (by rw [size_list]; exact h)]
  simp
  rfl
theorem pa_end {s : ByteArray} {t : PaSt} (h : PaOk s t) (he : t.i = s.size) : parse s = (t.acc, 0, 0) := by
  rw [h.2.2, he, ← size_list, List.drop_length]
  rfl
theorem pa_blank {s : ByteArray} {t : PaSt} (h : PaOk s t) (hi : t.i < s.size) (hb : ((byteAt s t.i).toNat : Int) = 32) : PaOk s ⟨t.i + 1, t.acc⟩ := by
  obtain ⟨h1, h2, h3⟩ := h
  refine ⟨hi, by simp only; omega, ?_⟩
  rw [h3, drop_byte hi, parseL, if_pos (by omega)]
theorem pa_key {s : ByteArray} {t : PaSt} (h : PaOk s t) (hi : t.i < s.size) (hb : ((byteAt s t.i).toNat : Int) ≠ 32) {k : Nat} (hk : posI letterI (byteAt s t.i).toNat = some k) : PaOk s ⟨t.i + 1, t.acc ++ [(k : Int) + 1]⟩ := by
  obtain ⟨h1, h2, h3⟩ := h
  refine ⟨hi, by simp only [List.length_append, List.length_cons, List.length_nil]; omega, ?_⟩
  rw [h3, drop_byte hi, parseL, if_neg (by omega), hk]
theorem pa_bad {s : ByteArray} {t : PaSt} (h : PaOk s t) (hi : t.i < s.size) (hb : ((byteAt s t.i).toNat : Int) ≠ 32) (hk : posI letterI (byteAt s t.i).toNat = none) : parse s = ([], (t.i : Int), 5) := by
  rw [h.2.2, drop_byte hi, parseL, if_neg (by omega), hk]

theorem rparse_c (s : ByteArray) : callP Try.prog 15 [.str s] (· = parseV s) := by
  refine callE_def env (fn := Try.f15) rfl (by decide) rfl ?_
  apply branch_intro <;> intro h
  · have h : 256 < s.size := by simp at h; omega
    show Eqv _ (parseV s)
    rw [parseV, parse, if_pos h]
    exact .tuple (.cons (.up (.nil _ _)) (.cons (.up (.refl _)) (.cons (.up (.refl _)) .nil)))
  have hsz : ¬ 256 < s.size := by simp at h; omega
  refine loop_weak (fun t : PaSt => slots 37 [(0, .str s), (5, .slice ⟨0, 0, 0⟩ t.acc.length), (6, .int .i64 t.i)]) (fun t => [.ints .u8 t.acc])
    (PaOk s) (fun t => s.size - t.i) ⟨0, []⟩ ⟨by simp, by simp, by rw [parse, if_neg hsz]; rfl⟩ ((weak_nil 5 (.ints .u8 []) rfl rfl).trans (weak_keep (keep 37 [0, 5, 6]) [0] rfl rfl rfl)) ?_
  rintro ⟨i, acc⟩ hok
  have hle : i ≤ s.size := hok.1
  have hla : acc.length ≤ i := hok.2.1
  have et : ((i : Int)).toNat = i := by omega
  have go : ∀ acc' : List Int, PaOk s ⟨i + 1, acc'⟩ → ∀ (v : AVal), IntKind.i64.wrap ((i : Int) + 1) = ((i + 1 : Nat) : Int) := fun _ _ _ => by rw [wi (by omega) (by omega)]; rfl
  have ei : IntKind.i64.wrap ((i : Int) + 1) = ((i + 1 : Nat) : Int) := by rw [wi (by omega) (by omega)]; rfl
  apply branch_intro <;> intro h
  · have hi : i < s.size := by simp at h; omega
    apply need_intro
    · dsimp only; omega
    conv => whnf
    rw [et]
    show branch (((byteAt s i).toNat : Int) == 32) _ _
    apply branch_intro <;> intro hb
    · have hb : ((byteAt s i).toNat : Int) = 32 := by simpa using hb
      refine ⟨⟨i + 1, acc⟩, pa_blank hok hi hb, by simp only; omega, weak_keep (keep 37 [0, 5, 6]) [0] rfl ?_ rfl⟩
      show [_, _, _, _, _, _, _, _, _, _, _, _, _, _, _, _, _, _, _, _, _, _, _, _, _, _, _, _, _, _, _, _, _, _, _, _, _] = _
      rw [ei]
      rfl
    · have hb : ((byteAt s i).toNat : Int) ≠ 32 := by simpa using hb
      apply need_intro
      · dsimp only; omega
      conv => whnf
      rw [et]
      refine callT_E (letter_c ((byteAt s i).toNat : Int)) rfl ?_
      cases hk : posI letterI (byteAt s i).toNat with
      | none =>
        rw [foundV, hk]
        apply branch_intro <;> intro h2
        · show Eqv _ (parseV s)
          rw [parseV, pa_bad hok hi hb hk]
          exact .tuple (.cons (.up (.nil _ _)) (.cons (.up (.refl _)) (.cons (.up (.refl _)) .nil)))
        · cases h2
      | some k =>
        have hk19 : k < 19 := (posI_inv hk).1
        rw [foundV, hk]
        apply branch_intro <;> intro h2
        · cases h2
        · apply choice_l
          apply need_intro
          · show (acc.length + 1) * 1 ≤ _
            omega
          apply need_intro
          · exact ⟨by simp, isRow_irow _ _ _⟩
          refine ⟨⟨i + 1, acc ++ [(k : Int) + 1]⟩, pa_key hok hi hb hk, by simp only; omega, weak_keep (keep 37 [0, 5, 6]) [0] rfl ?_ ?_⟩
          · show [_, _, _, _, _, _, _, _, _, _, _, _, _, _, _, _, _, _, _, _, _, _, _, _, _, _, _, _, _, _, _, _, _, _, _, _, _] = _
            rw [ei]
            simp only [List.length_append, List.length_cons, List.length_nil]
            rfl
          · show [Blk.ints _ _] = _
            rw [snoc_row]
  · have hi : i = s.size := by simp at h; omega
    apply need_intro
    · simp
    show Eqv _ (parseV s)
    rw [parseV, pa_end hok hi]
    exact .up (.up (.refl _))

abbrev lettersS : ByteArray := ⟨#[48, 49, 50, 51, 52, 53, 54, 55, 56, 57, 43, 45, 86, 78, 69, 67, 75, 82, 80]⟩
theorem letters_dec : ∀ k : Fin 19, ((Utf8.decode lettersS k.1).1 : Int) = letterI.getD k.1 0 ∧ (Utf8.decode lettersS k.1).2 = 1 := by decide +kernel
theorem letterI_small {k : Nat} (h : k < 19) : letterI.getD k 0 < 128 := by
  have : ∀ k : Fin 19, letterI.getD k.1 0 < 128 := by decide
  exact this ⟨k, h⟩

theorem parse_c (s : ByteArray) : callP Try.prog 14 [.str s] (· = parseV s) := by
  refine callE_def env (fn := Try.f14) rfl (by decide) rfl ?_
  apply branch_intro <;> intro h
  · have h : 256 < s.size := by simp at h; omega
    show Eqv _ (parseV s)
    rw [parseV, parse, if_pos h]
    exact .tuple (.cons (.up (.nil _ _)) (.cons (.up (.refl _)) (.cons (.up (.refl _)) .nil)))
  have hsz : ¬ 256 < s.size := by simp at h; omega
  refine loop_weak (fun t : PaSt => slots 37 [(5, .slice ⟨1, 0, 0⟩ t.acc.length), (14, .ptr ⟨0, 0, 0⟩)]) (fun t => [.iter s t.i, .ints .u8 t.acc])
    (PaOk s) (fun t => s.size - t.i) ⟨0, []⟩ ⟨by simp, by simp, by rw [parse, if_neg hsz]; rfl⟩ ((weak_nil 5 (.ints .u8 []) rfl rfl).trans (weak_keep (keep 37 [5, 14]) [0, 1] rfl rfl rfl)) ?_
  rintro ⟨i, acc⟩ hok
  have hle : i ≤ s.size := hok.1
  have hla : acc.length ≤ i := hok.2.1
  apply branch_intro <;> intro h
  · have hi : i < s.size := by simpa using h
    -- the rune at hand
    obtain ⟨r, w, hd⟩ : ∃ r w, Utf8.decode s i = (r, w) := ⟨_, _, rfl⟩
    have hr : (byteAt s i).toNat < 128 ∧ r = (byteAt s i).toNat ∧ w = 1 ∨ 128 ≤ (byteAt s i).toNat ∧ 128 ≤ r := by
      rcases Nat.lt_or_ge (byteAt s i).toNat 128 with h8 | h8
      · have := decode_ascii s i hi (by rw [byte_get hi]; exact h8)
        rw [hd, byte_get hi] at this
        cases this
        exact .inl ⟨h8, rfl, rfl⟩
      · have := decode_high s i hi (by rw [byte_get hi]; exact h8)
        rw [hd] at this
        exact .inr ⟨h8, this.1⟩
    simp only [hd]
    repeat refine branch_true ?_
    apply branch_intro <;> intro hb
    · have hb : (r : Int) = 32 := by simpa using hb
      obtain ⟨h8, hr1, hw⟩ := hr.resolve_right (by omega)
      refine ⟨⟨i + 1, acc⟩, pa_blank hok hi (show ((byteAt s i).toNat : Int) = 32 by omega), by simp only; omega, weak_keep (keep 37 [5, 14]) [0, 1] rfl rfl ?_⟩
      subst hw
      rfl
    · have hb : (r : Int) ≠ 32 := by simpa using hb
      have hb' : ((byteAt s i).toNat : Int) ≠ 32 := by omega
      refine loop_inv (keep 37 [5, 6, 7, 14, 21]) (fun k : Nat => slots 37 [(5, .slice ⟨1, 0, 0⟩ acc.length), (6, .int .i64 i), (7, .int .i32 r), (14, .ptr ⟨0, 0, 0⟩), (21, .ptr ⟨2, 0, 0⟩)])
        (fun k => [.iter s (i + w), .ints .u8 acc, .iter lettersS k]) (fun k => k ≤ 19 ∧ ∀ j, j < k → letterI.getD j 0 ≠ r) (fun k => 19 - k) 0 ⟨by omega, by omega⟩ rfl rfl ?_
      rintro k ⟨hk, hno⟩
      apply branch_intro <;> intro h3
      · have hk19 : k < 19 := of_decide_eq_true h3
        obtain ⟨d1, d2⟩ := letters_dec ⟨k, hk19⟩
        simp only at d1 d2
        have hsm := letterI_small hk19
        repeat refine branch_true ?_
        conv => whnf
        rw [d1]
        apply branch_intro <;> intro h4
        · have h4 : letterI.getD k 0 = r := by simpa using h4
          obtain ⟨h8, hr1, hw⟩ := hr.resolve_right (by omega)
          have hpos : posI letterI (byteAt s i).toNat = some k := posI_some hk19 (by rw [h4, hr1]) (by rw [← hr1]; exact hno)
          apply choice_l
          apply need_intro
          · show (acc.length + 1) * 1 ≤ _
            omega
          apply need_intro
          · exact ⟨by simp, isRow_irow _ _ _⟩
          have e1 : IntKind.u8.wrap (IntKind.i64.wrap ((k : Int) + 1)) = (k : Int) + 1 := by rw [wi (by omega) (by omega)]; exact wu8 (by omega) (by omega)
          refine ⟨⟨i + 1, acc ++ [(k : Int) + 1]⟩, pa_key hok hi hb' hpos, by simp only; omega, weak_keep (keep 37 [5, 14]) [0, 1] rfl ?_ ?_⟩
          · show [_, _, _, _, _, _, _, _, _, _, _, _, _, _, _, _, _, _, _, _, _, _, _, _, _, _, _, _, _, _, _, _, _, _, _, _, _] = _
            simp only [List.length_append, List.length_cons, List.length_nil]
            rfl
          · show [Blk.iter _ _, Blk.ints _ _] = _
            rw [e1, snoc_row, hw]
        · have h4 : letterI.getD k 0 ≠ r := by simpa using h4
          refine ⟨k + 1, ⟨by omega, fun j hj => ?_⟩, by omega, rfl, ?_⟩
          · by_cases hji : j = k
            · subst hji; exact h4
            · exact hno j (by omega)
          · show [_, _, Blk.iter _ _] = _
            rw [d2]
      · have hk19 : k = 19 := by
          have : ¬ k < 19 := of_decide_eq_false h3
          omega
        subst hk19
        repeat refine branch_false ?_
        have hpos : posI letterI (byteAt s i).toNat = none := by
          rcases hr with ⟨h8, hr1, hw⟩ | ⟨h8, _⟩
          · rw [← hr1]; exact posI_none (l := letterI) hno
          · refine posI_none fun j hj => ?_
            have := letterI_small (k := j) hj
            omega
        show Eqv _ (parseV s)
        rw [parseV, pa_bad hok hi hb' hpos]
        exact .tuple (.cons (.up (.nil _ _)) (.cons (.up (.refl _)) (.cons (.up (.refl _)) .nil)))
  · have hi : i = s.size := by
      have : ¬ i < s.size := by simpa using h
      omega
    repeat refine branch_false ?_
    apply need_intro
    · simp
    show Eqv _ (parseV s)
    rw [parseV, pa_end hok hi]
    exact .up (.up (.refl _))
end Go.Proofs
