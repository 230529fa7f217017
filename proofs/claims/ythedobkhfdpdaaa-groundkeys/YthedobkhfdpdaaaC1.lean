/- The program's types, as the engine reads them (printed by wip/tenv.py). -/
import Derived.Test.YthedobkhfdpdaaaProg
import Derived.Test.YthedobkhfdpdaaaE2
import Derived.Test.YthedobkhfdpdaaaE4
import Derived.RangeFuncFrom
import Derived.Deep.RegionHeld
import Derived.RangeFuncLeaves
import Derived.WalkKit
import Derived.OwnWalkIn
import Derived.TacticsInMore
import Derived.LoopNIn
import Derived.LoopIn
set_option linter.unusedVariables false
set_option linter.unusedSimpArgs false
namespace Go.Proofs
open Go.E
noncomputable def Tenv : TEnv := [
  ⟨1, 0, .other, some [.any], true⟩,
  ⟨1, 8, .func, some [.nilfn], true⟩,
  ⟨1, 8, .int .i64, some [.int .i64 0], true⟩,
  ⟨1, 8, .int .i64, some [.int .i64 0], true⟩,
  ⟨1, 1, .bool, some [.bool false], true⟩,
  ⟨1, 1, .int .u8, some [.int .u8 0], true⟩,
  ⟨1, 1, .int .u8, some [.int .u8 0], true⟩,
  ⟨4, 24, .struct [(0, 2), (1, 3), (2, 4), (3, 6)], some [.int .i64 0, .int .i64 0, .bool false, .int .u8 0], true⟩,
  ⟨4, 24, .struct [(0, 2), (1, 3), (2, 4), (3, 6)], some [.int .i64 0, .int .i64 0, .bool false, .int .u8 0], true⟩,
  ⟨1, 16, .str, some [.str ⟨#[]⟩], true⟩,
  ⟨1, 16, .str, some [.str ⟨#[]⟩], true⟩,
  ⟨1, 16, .str, some [.str ⟨#[]⟩], true⟩,
  ⟨1, 8, .int .u64, some [.int .u64 0], true⟩,
  ⟨2, 24, .struct [(0, 9), (1, 12)], some [.str ⟨#[]⟩, .int .u64 0], false⟩,
  ⟨2, 24, .struct [(0, 9), (1, 12)], some [.str ⟨#[]⟩, .int .u64 0], false⟩,
  ⟨1, 8, .ptr, some [.nilptr], true⟩,
  ⟨1, 8, .ptr, some [.nilptr], true⟩,
  ⟨1, 8, .ptr, some [.nilptr], true⟩,
  ⟨1, 8, .struct [(0, 17)], some [.nilptr], false⟩,
  ⟨1, 8, .struct [(0, 17)], some [.nilptr], false⟩,
  ⟨1, 16, .other, some [.any], true⟩,
  ⟨1, 4, .int .i32, some [.int .i32 0], true⟩,
  ⟨1, 24, .slice 99, some [.nilslice], true⟩,
  ⟨1, 24, .slice 48, some [.nilslice], true⟩,
  ⟨1, 24, .slice 69, some [.nilslice], true⟩,
  ⟨1, 1, .int .u8, some [.int .u8 0], true⟩,
  ⟨5, 5, .arr 5 5, some [.int .u8 0, .int .u8 0, .int .u8 0, .int .u8 0, .int .u8 0], true⟩,
  ⟨6, 6, .struct [(0, 5), (1, 26)], some [.int .u8 0, .int .u8 0, .int .u8 0, .int .u8 0, .int .u8 0, .int .u8 0], true⟩,
  ⟨6, 6, .struct [(0, 5), (1, 26)], some [.int .u8 0, .int .u8 0, .int .u8 0, .int .u8 0, .int .u8 0, .int .u8 0], true⟩,
  ⟨18, 18, .arr 3 28, some [.int .u8 0, .int .u8 0, .int .u8 0, .int .u8 0, .int .u8 0, .int .u8 0, .int .u8 0, .int .u8 0, .int .u8 0, .int .u8 0, .int .u8 0, .int .u8 0, .int .u8 0, .int .u8 0, .int .u8 0, .int .u8 0, .int .u8 0, .int .u8 0], true⟩,
  ⟨1, 1, .int .u8, some [.int .u8 0], true⟩,
  ⟨3, 3, .arr 3 4, some [.bool false, .bool false, .bool false], true⟩,
  ⟨5, 5, .struct [(0, 30), (1, 4), (2, 31)], some [.int .u8 0, .bool false, .bool false, .bool false, .bool false], true⟩,
  ⟨5, 5, .struct [(0, 30), (1, 4), (2, 31)], some [.int .u8 0, .bool false, .bool false, .bool false, .bool false], true⟩,
  ⟨2, 2, .arr 2 5, some [.int .u8 0, .int .u8 0], true⟩,
  ⟨1, 2, .int .u16, some [.int .u16 0], true⟩,
  ⟨26, 28, .struct [(0, 34), (2, 34), (4, 34), (6, 29), (24, 35), (25, 35)], some [.int .u8 0, .int .u8 0, .int .u8 0, .int .u8 0, .int .u8 0, .int .u8 0, .int .u8 0, .int .u8 0, .int .u8 0, .int .u8 0, .int .u8 0, .int .u8 0, .int .u8 0, .int .u8 0, .int .u8 0, .int .u8 0, .int .u8 0, .int .u8 0, .int .u8 0, .int .u8 0, .int .u8 0, .int .u8 0, .int .u8 0, .int .u8 0, .int .u16 0, .int .u16 0], true⟩,
  ⟨26, 28, .struct [(0, 34), (2, 34), (4, 34), (6, 29), (24, 35), (25, 35)], some [.int .u8 0, .int .u8 0, .int .u8 0, .int .u8 0, .int .u8 0, .int .u8 0, .int .u8 0, .int .u8 0, .int .u8 0, .int .u8 0, .int .u8 0, .int .u8 0, .int .u8 0, .int .u8 0, .int .u8 0, .int .u8 0, .int .u8 0, .int .u8 0, .int .u8 0, .int .u8 0, .int .u8 0, .int .u8 0, .int .u8 0, .int .u8 0, .int .u16 0, .int .u16 0], true⟩,
  ⟨65, 152, .struct [(0, 22), (1, 25), (2, 3), (3, 3), (4, 28), (10, 3), (11, 3), (12, 29), (30, 33), (35, 3), (36, 3), (37, 3), (38, 4), (39, 37)], some [.nilslice, .int .u8 0, .int .i64 0, .int .i64 0, .int .u8 0, .int .u8 0, .int .u8 0, .int .u8 0, .int .u8 0, .int .u8 0, .int .i64 0, .int .i64 0, .int .u8 0, .int .u8 0, .int .u8 0, .int .u8 0, .int .u8 0, .int .u8 0, .int .u8 0, .int .u8 0, .int .u8 0, .int .u8 0, .int .u8 0, .int .u8 0, .int .u8 0, .int .u8 0, .int .u8 0, .int .u8 0, .int .u8 0, .int .u8 0, .int .u8 0, .bool false, .bool false, .bool false, .bool false, .int .i64 0, .int .i64 0, .int .i64 0, .bool false, .int .u8 0, .int .u8 0, .int .u8 0, .int .u8 0, .int .u8 0, .int .u8 0, .int .u8 0, .int .u8 0, .int .u8 0, .int .u8 0, .int .u8 0, .int .u8 0, .int .u8 0, .int .u8 0, .int .u8 0, .int .u8 0, .int .u8 0, .int .u8 0, .int .u8 0, .int .u8 0, .int .u8 0, .int .u8 0, .int .u8 0, .int .u8 0, .int .u16 0, .int .u16 0], true⟩,
  ⟨65, 152, .struct [(0, 22), (1, 25), (2, 3), (3, 3), (4, 28), (10, 3), (11, 3), (12, 29), (30, 33), (35, 3), (36, 3), (37, 3), (38, 4), (39, 37)], some [.nilslice, .int .u8 0, .int .i64 0, .int .i64 0, .int .u8 0, .int .u8 0, .int .u8 0, .int .u8 0, .int .u8 0, .int .u8 0, .int .i64 0, .int .i64 0, .int .u8 0, .int .u8 0, .int .u8 0, .int .u8 0, .int .u8 0, .int .u8 0, .int .u8 0, .int .u8 0, .int .u8 0, .int .u8 0, .int .u8 0, .int .u8 0, .int .u8 0, .int .u8 0, .int .u8 0, .int .u8 0, .int .u8 0, .int .u8 0, .int .u8 0, .bool false, .bool false, .bool false, .bool false, .int .i64 0, .int .i64 0, .int .i64 0, .bool false, .int .u8 0, .int .u8 0, .int .u8 0, .int .u8 0, .int .u8 0, .int .u8 0, .int .u8 0, .int .u8 0, .int .u8 0, .int .u8 0, .int .u8 0, .int .u8 0, .int .u8 0, .int .u8 0, .int .u8 0, .int .u8 0, .int .u8 0, .int .u8 0, .int .u8 0, .int .u8 0, .int .u8 0, .int .u8 0, .int .u8 0, .int .u8 0, .int .u16 0, .int .u16 0], true⟩,
  ⟨1, 8, .int .i64, some [.int .i64 0], true⟩,
  ⟨1, 0, .other, some [.any], true⟩,
  ⟨1, 8, .func, some [.nilfn], true⟩,
  ⟨1, 8, .func, some [.nilfn], true⟩,
  ⟨1, 24, .slice 51, some [.nilslice], true⟩,
  ⟨1, 24, .slice 46, some [.nilslice], true⟩,
  ⟨1, 1, .int .u8, some [.int .u8 0], true⟩,
  ⟨4, 6, .struct [(0, 5), (1, 5), (2, 5), (3, 35)], some [.int .u8 0, .int .u8 0, .int .u8 0, .int .u16 0], true⟩,
  ⟨4, 6, .struct [(0, 5), (1, 5), (2, 5), (3, 35)], some [.int .u8 0, .int .u8 0, .int .u8 0, .int .u16 0], true⟩,
  ⟨1, 0, .other, some [.any], true⟩,
  ⟨1, 8, .func, some [.nilfn], true⟩,
  ⟨16, 16, .arr 16 5, some [.int .u8 0, .int .u8 0, .int .u8 0, .int .u8 0, .int .u8 0, .int .u8 0, .int .u8 0, .int .u8 0, .int .u8 0, .int .u8 0, .int .u8 0, .int .u8 0, .int .u8 0, .int .u8 0, .int .u8 0, .int .u8 0], true⟩,
  ⟨1, 0, .other, some [.any], true⟩,
  ⟨1, 8, .func, some [.nilfn], true⟩,
  ⟨1, 8, .int .u64, some [.int .u64 0], true⟩,
  ⟨1, 24, .slice 3, some [.nilslice], true⟩,
  ⟨2, 16, .struct [(0, 4), (1, 3)], some [.bool false, .int .i64 0], true⟩,
  ⟨2, 16, .struct [(0, 4), (1, 3)], some [.bool false, .int .i64 0], true⟩,
  ⟨1, 0, .other, some [.any], true⟩,
  ⟨1, 8, .func, some [.nilfn], true⟩,
  ⟨1, 0, .other, some [.any], true⟩,
  ⟨1, 8, .func, some [.nilfn], true⟩,
  ⟨1, 24, .slice 68, some [.nilslice], true⟩,
  ⟨1, 0, .other, some [.any], true⟩,
  ⟨1, 8, .func, some [.nilfn], true⟩,
  ⟨1, 1, .int .u8, some [.int .u8 0], true⟩,
  ⟨1, 24, .slice 92, some [.nilslice], true⟩,
  ⟨3, 40, .struct [(0, 65), (1, 3), (2, 66)], some [.int .u8 0, .int .i64 0, .nilslice], true⟩,
  ⟨3, 40, .struct [(0, 65), (1, 3), (2, 66)], some [.int .u8 0, .int .i64 0, .nilslice], true⟩,
  ⟨1, 2, .int .u16, some [.int .u16 0], true⟩,
  ⟨1, 0, .other, some [.any], true⟩,
  ⟨1, 8, .func, some [.nilfn], true⟩,
  ⟨1, 8, .func, some [.nilfn], true⟩,
  ⟨1, 8, .func, some [.nilfn], true⟩,
  ⟨1, 8, .func, some [.nilfn], true⟩,
  ⟨1, 8, .func, some [.nilfn], true⟩,
  ⟨1, 8, .func, some [.nilfn], true⟩,
  ⟨1, 8, .func, some [.nilfn], true⟩,
  ⟨19, 152, .arr 19 3, some [.int .i64 0, .int .i64 0, .int .i64 0, .int .i64 0, .int .i64 0, .int .i64 0, .int .i64 0, .int .i64 0, .int .i64 0, .int .i64 0, .int .i64 0, .int .i64 0, .int .i64 0, .int .i64 0, .int .i64 0, .int .i64 0, .int .i64 0, .int .i64 0, .int .i64 0], true⟩,
  ⟨1, 8, .func, some [.nilfn], true⟩,
  ⟨5, 5, .arr 5 5, some [.int .u8 0, .int .u8 0, .int .u8 0, .int .u8 0, .int .u8 0], true⟩,
  ⟨1, 8, .func, some [.nilfn], true⟩,
  ⟨1, 8, .func, some [.nilfn], true⟩,
  ⟨1, 24, .slice 5, some [.nilslice], true⟩,
  ⟨2, 16, .struct [(0, 57)], some [.bool false, .int .i64 0], true⟩,
  ⟨2, 16, .struct [(0, 57)], some [.bool false, .int .i64 0], true⟩,
  ⟨1, 0, .other, some [.any], true⟩,
  ⟨1, 8, .func, some [.nilfn], true⟩,
  ⟨1, 0, .other, some [.any], true⟩,
  ⟨1, 8, .func, some [.nilfn], true⟩,
  ⟨1, 8, .func, some [.nilfn], true⟩,
  ⟨2, 16, .struct [(0, 3), (1, 69)], some [.int .i64 0, .int .u16 0], true⟩,
  ⟨2, 16, .struct [(0, 3), (1, 69)], some [.int .i64 0, .int .u16 0], true⟩,
  ⟨1, 0, .other, some [.any], true⟩,
  ⟨1, 8, .func, some [.nilfn], true⟩,
  ⟨1, 0, .other, some [.any], true⟩,
  ⟨1, 8, .func, some [.nilfn], true⟩,
  ⟨1, 24, .slice 102, some [.nilslice], true⟩,
  ⟨2, 32, .struct [(0, 3), (1, 97)], some [.int .i64 0, .nilslice], true⟩,
  ⟨2, 32, .struct [(0, 3), (1, 97)], some [.int .i64 0, .nilslice], true⟩,
  ⟨1, 1, .int .u8, some [.int .u8 0], true⟩,
  ⟨4, 32, .struct [(0, 100), (1, 3), (2, 3), (3, 3)], some [.int .u8 0, .int .i64 0, .int .i64 0, .int .i64 0], true⟩,
  ⟨4, 32, .struct [(0, 100), (1, 3), (2, 3), (3, 3)], some [.int .u8 0, .int .i64 0, .int .i64 0, .int .i64 0], true⟩,
  ⟨1, 8, .func, some [.nilfn], true⟩,
  ⟨1, 8, .ptr, some [.nilptr], true⟩,
  ⟨4, 32, .struct [(0, 104), (1, 104), (2, 104), (3, 5)], some [.nilptr, .nilptr, .nilptr, .int .u8 0], true⟩,
  ⟨4, 32, .struct [(0, 104), (1, 104), (2, 104), (3, 5)], some [.nilptr, .nilptr, .nilptr, .int .u8 0], true⟩,
  ⟨48, 384, .arr 12 106, some [.nilptr, .nilptr, .nilptr, .int .u8 0, .nilptr, .nilptr, .nilptr, .int .u8 0, .nilptr, .nilptr, .nilptr, .int .u8 0, .nilptr, .nilptr, .nilptr, .int .u8 0, .nilptr, .nilptr, .nilptr, .int .u8 0, .nilptr, .nilptr, .nilptr, .int .u8 0, .nilptr, .nilptr, .nilptr, .int .u8 0, .nilptr, .nilptr, .nilptr, .int .u8 0, .nilptr, .nilptr, .nilptr, .int .u8 0, .nilptr, .nilptr, .nilptr, .int .u8 0, .nilptr, .nilptr, .nilptr, .int .u8 0, .nilptr, .nilptr, .nilptr, .int .u8 0], true⟩,
  ⟨1, 8, .func, some [.nilfn], true⟩,
  ⟨1, 8, .ptr, some [.nilptr], true⟩,
  ⟨1, 24, .slice 106, some [.nilslice], true⟩,
  ⟨1, 0, .other, some [.any], true⟩,
  ⟨1, 8, .func, some [.nilfn], true⟩,
  ⟨1, 8, .func, some [.nilfn], true⟩,
  ⟨1, 8, .ptr, some [.nilptr], true⟩,
  ⟨68, 192, .struct [(0, 39), (65, 68)], some [.nilslice, .int .u8 0, .int .i64 0, .int .i64 0, .int .u8 0, .int .u8 0, .int .u8 0, .int .u8 0, .int .u8 0, .int .u8 0, .int .i64 0, .int .i64 0, .int .u8 0, .int .u8 0, .int .u8 0, .int .u8 0, .int .u8 0, .int .u8 0, .int .u8 0, .int .u8 0, .int .u8 0, .int .u8 0, .int .u8 0, .int .u8 0, .int .u8 0, .int .u8 0, .int .u8 0, .int .u8 0, .int .u8 0, .int .u8 0, .int .u8 0, .bool false, .bool false, .bool false, .bool false, .int .i64 0, .int .i64 0, .int .i64 0, .bool false, .int .u8 0, .int .u8 0, .int .u8 0, .int .u8 0, .int .u8 0, .int .u8 0, .int .u8 0, .int .u8 0, .int .u8 0, .int .u8 0, .int .u8 0, .int .u8 0, .int .u8 0, .int .u8 0, .int .u8 0, .int .u8 0, .int .u8 0, .int .u8 0, .int .u8 0, .int .u8 0, .int .u8 0, .int .u8 0, .int .u8 0, .int .u8 0, .int .u16 0, .int .u16 0, .int .u8 0, .int .i64 0, .nilslice], true⟩,
  ⟨68, 192, .struct [(0, 39), (65, 68)], some [.nilslice, .int .u8 0, .int .i64 0, .int .i64 0, .int .u8 0, .int .u8 0, .int .u8 0, .int .u8 0, .int .u8 0, .int .u8 0, .int .i64 0, .int .i64 0, .int .u8 0, .int .u8 0, .int .u8 0, .int .u8 0, .int .u8 0, .int .u8 0, .int .u8 0, .int .u8 0, .int .u8 0, .int .u8 0, .int .u8 0, .int .u8 0, .int .u8 0, .int .u8 0, .int .u8 0, .int .u8 0, .int .u8 0, .int .u8 0, .int .u8 0, .bool false, .bool false, .bool false, .bool false, .int .i64 0, .int .i64 0, .int .i64 0, .bool false, .int .u8 0, .int .u8 0, .int .u8 0, .int .u8 0, .int .u8 0, .int .u8 0, .int .u8 0, .int .u8 0, .int .u8 0, .int .u8 0, .int .u8 0, .int .u8 0, .int .u8 0, .int .u8 0, .int .u8 0, .int .u8 0, .int .u8 0, .int .u8 0, .int .u8 0, .int .u8 0, .int .u8 0, .int .u8 0, .int .u8 0, .int .u8 0, .int .u16 0, .int .u16 0, .int .u8 0, .int .i64 0, .nilslice], true⟩,
  ⟨1, 8, .func, some [.nilfn], true⟩,
  ⟨1, 0, .other, some [.any], true⟩,
  ⟨1, 8, .func, some [.nilfn], true⟩,
  ⟨1, 0, .other, some [.any], true⟩,
  ⟨1, 8, .func, some [.nilfn], true⟩,
  ⟨1, 8, .func, some [.nilfn], true⟩,
  ⟨1, 0, .other, some [.any], true⟩,
  ⟨1, 8, .func, some [.nilfn], true⟩,
  ⟨11, 11, .arr 11 5, some [.int .u8 0, .int .u8 0, .int .u8 0, .int .u8 0, .int .u8 0, .int .u8 0, .int .u8 0, .int .u8 0, .int .u8 0, .int .u8 0, .int .u8 0], true⟩,
  ⟨1, 8, .func, some [.nilfn], true⟩,
  ⟨1, 8, .func, some [.nilfn], true⟩,
  ⟨1, 8, .ptr, some [.nilptr], true⟩,
  ⟨1, 8, .func, some [.nilfn], true⟩,
  ⟨1, 8, .func, some [.nilfn], true⟩,
  ⟨1, 0, .other, some [.any], true⟩,
  ⟨1, 8, .func, some [.nilfn], true⟩,
  ⟨1, 8, .func, some [.nilfn], true⟩,
  ⟨1, 24, .slice 138, some [.nilslice], true⟩,
  ⟨1, 8, .func, some [.nilfn], true⟩,
  ⟨2, 2, .arr 2 46, some [.int .u8 0, .int .u8 0], true⟩,
  ⟨3, 16, .struct [(0, 136), (2, 77)], some [.int .u8 0, .int .u8 0, .nilfn], true⟩,
  ⟨3, 16, .struct [(0, 136), (2, 77)], some [.int .u8 0, .int .u8 0, .nilfn], true⟩,
  ⟨1, 0, .other, some [.any], true⟩,
  ⟨1, 8, .func, some [.nilfn], true⟩,
  ⟨1, 8, .func, some [.nilfn], true⟩,
  ⟨1, 8, .func, some [.nilfn], true⟩,
  ⟨1, 8, .func, some [.nilfn], true⟩,
  ⟨1, 0, .other, some [.any], true⟩,
  ⟨1, 8, .func, some [.nilfn], true⟩,
  ⟨1, 8, .func, some [.nilfn], true⟩,
  ⟨1, 8, .func, some [.nilfn], true⟩,
  ⟨2, 4, .arr 2 69, some [.int .u16 0, .int .u16 0], true⟩,
  ⟨2, 4, .arr 2 69, some [.int .u16 0, .int .u16 0], true⟩,
  ⟨1, 8, .func, some [.nilfn], true⟩,
  ⟨1, 8, .func, some [.nilfn], true⟩,
  ⟨1, 8, .func, some [.nilfn], true⟩,
  ⟨1, 8, .func, some [.nilfn], true⟩,
  ⟨1, 8, .func, some [.nilfn], true⟩,
  ⟨1, 8, .func, some [.nilfn], true⟩,
  ⟨1, 8, .ptr, some [.nilptr], true⟩,
  ⟨1, 8, .ptr, some [.nilptr], true⟩,
  ⟨1, 0, .other, some [.any], true⟩,
  ⟨1, 8, .func, some [.nilfn], true⟩,
  ⟨1, 8, .func, some [.nilfn], true⟩,
  ⟨1, 8, .func, some [.nilfn], true⟩,
  ⟨1, 8, .func, some [.nilfn], true⟩,
  ⟨1, 8, .func, some [.nilfn], true⟩,
  ⟨1, 8, .func, some [.nilfn], true⟩,
  ⟨1, 8, .func, some [.nilfn], true⟩,
  ⟨1, 8, .func, some [.nilfn], true⟩,
  ⟨1, 0, .other, some [.any], true⟩,
  ⟨1, 8, .func, some [.nilfn], true⟩,
  ⟨1, 0, .other, some [.any], true⟩,
  ⟨1, 8, .func, some [.nilfn], true⟩,
  ⟨1, 8, .func, some [.nilfn], true⟩,
  ⟨1, 8, .func, some [.nilfn], true⟩,
  ⟨1, 8, .func, some [.nilfn], true⟩,
  ⟨1, 8, .func, some [.nilfn], true⟩,
  ⟨1, 0, .other, some [.any], true⟩,
  ⟨1, 8, .func, some [.nilfn], true⟩,
  ⟨1, 8, .func, some [.nilfn], true⟩,
  ⟨1, 8, .func, some [.nilfn], true⟩,
  ⟨1, 8, .func, some [.nilfn], true⟩,
  ⟨1, 8, .func, some [.nilfn], true⟩,
  ⟨1, 8, .func, some [.nilfn], true⟩,
  ⟨1, 8, .int .u64, some [.int .u64 0], true⟩,
  ⟨1, 8, .func, some [.nilfn], true⟩,
  ⟨4, 40, .struct [(0, 17), (1, 17), (2, 17), (3, 9)], some [.nilptr, .nilptr, .nilptr, .str ⟨#[]⟩], false⟩,
  ⟨4, 40, .struct [(0, 17), (1, 17), (2, 17), (3, 9)], some [.nilptr, .nilptr, .nilptr, .str ⟨#[]⟩], false⟩,
  ⟨0, 0, .arr 0 16, some [], true⟩,
  ⟨0, 0, .struct [(0, 186)], some [], false⟩,
  ⟨0, 0, .struct [(0, 186)], some [], false⟩,
  ⟨1, 8, .func, some [.nilfn], true⟩,
  ⟨1, 4, .int .u32, some [.int .u32 0], true⟩,
  ⟨1, 1, .int .u8, some [.int .u8 0], true⟩,
  ⟨1, 1, .int .u8, some [.int .u8 0], true⟩,
  ⟨1, 8, .func, some [.nilfn], true⟩,
  ⟨1, 4, .int .i32, some [.int .i32 0], true⟩,
  ⟨1, 4, .int .i32, some [.int .i32 0], true⟩,
  ⟨11, 48, .struct [(0, 12), (1, 12), (2, 190), (3, 191), (4, 5), (5, 5), (6, 192), (7, 193), (8, 104), (9, 194), (10, 195)], some [.int .u64 0, .int .u64 0, .int .u32 0, .int .u8 0, .int .u8 0, .int .u8 0, .int .u8 0, .nilfn, .nilptr, .int .i32 0, .int .i32 0], false⟩,
  ⟨11, 48, .struct [(0, 12), (1, 12), (2, 190), (3, 191), (4, 5), (5, 5), (6, 192), (7, 193), (8, 104), (9, 194), (10, 195)], some [.int .u64 0, .int .u64 0, .int .u32 0, .int .u8 0, .int .u8 0, .int .u8 0, .int .u8 0, .nilfn, .nilptr, .int .i32 0, .int .i32 0], false⟩,
  ⟨1, 8, .other, some [.nilptr], true⟩]
set_option maxRecDepth 100000 in
theorem tok : TOK Try.prog Tenv := tok_with rfl (by decide +kernel) (by decide +kernel)
end Go.Proofs
namespace Go.Proofs
open Go.RowKit
theorem cell_heap {W : World} {B : Nat} {v : Value} {t : TypeId} (h : W.heap[B]? = some (.cells #[v] t (0, 0))) : W.cell? ⟨B, 0, none⟩ = some v ∧ W.frozen? ⟨B, 0, none⟩ = false := by
  constructor <;> simp [World.cell?, World.frozen?, h]
theorem cell_eq {W W' : World} {B : Nat} (h : W'.heap[B]? = W.heap[B]?) (j : Nat) : W'.cell? ⟨B, j, none⟩ = W.cell? ⟨B, j, none⟩ ∧ W'.frozen? ⟨B, j, none⟩ = W.frozen? ⟨B, j, none⟩ := by
  constructor <;> simp [World.cell?, World.frozen?, h]
theorem digits1_in (l Bn Bb : Nat) (base : Int) (hb : 1 ≤ base ∧ base ≤ 10) (v : Nat → Int) (hv0 : ∀ k, 0 ≤ v k ∧ v k ≤ 9223372036854775807) (hv : ∀ k, v (k + 1) = v k / base) (hne : Bn ≠ Bb) (J : Nat → World → Prop)
    (hJ : ∀ k W u, J k W → J k (W.setCell ⟨Bn, 0, none⟩ u))
    (hY : ∀ k W, k < 5 → J k W → YieldAt Fence.wide 8 Try.prog l #[.int .i64 (4 - k), .int .u8 ((v k).tmod base % 256)] W fun e W' => e = .returned (.bool true) ∧ J (k + 1) W' ∧ W'.heap[Bn]? = W.heap[Bn]? ∧ W'.heap[Bb]? = W.heap[Bb]?)
    (W : World) (h1 : W.heap[Bn]? = some (.cells #[.int .i64 (v 0)] 2 (0, 0))) (h2 : W.heap[Bb]? = some (.cells #[.int .i64 base] 2 (0, 0))) (h0 : J 0 W) :
    CallsIn Fence.wide 9 Try.prog 72 #[.func (.yield l) #[] #[], .pointer (some ⟨Bn, 0, none⟩), .pointer (some ⟨Bb, 0, none⟩)] W fun e W' => (∃ v, e = .returned v) ∧ J 5 W' := by
  have c1 := cell_heap h1
  have c2 := cell_heap h2
  refine callsIn_of_wp Try.func72 rfl trivial ?_ rfl
  simp only [Try.ntmps72, List.size_toArray, List.length_cons, List.length_nil, Nat.reduceAdd, Nat.reduceSub, Array.replicate_succ, Array.replicate_zero, List.push_toArray, List.append_toArray, List.nil_append, List.cons_append]
  gi_wp2
  gi_loopw [4] (fun i wr => ∃ k : Nat, k ≤ 5 ∧ i = .int .i64 (4 - k) ∧ J k wr ∧ wr.cell? ⟨Bn, 0, none⟩ = some (.int .i64 (v k)) ∧ wr.frozen? ⟨Bn, 0, none⟩ = false ∧ wr.cell? ⟨Bb, 0, none⟩ = some (.int .i64 base)) (fun i _ => (RowKit.intOf i + 1).toNat)
  case atStart => exact ⟨0, by omega, rfl, h0, c1.1, c1.2, c2.1⟩
  case round =>
    obtain ⟨k, hk, rfl, hj, hc, hf, hcb⟩ := hrel
    by_cases hk5 : k < 5
    · obtain ⟨fn, tmps, assign, body, hy, hR⟩ := hY k wr hk5 hj
      have h4 : (k : Int) ≤ 4 := by omega
      have hb0 : ¬ base = 0 := by omega
      gi_wp2
      refine hR.mono ?_
      rintro e W3 ⟨rfl, hJ3, k1, k2⟩
      have e1 := cell_eq k1 0
      have e2 := cell_eq k2 0
      rw [hc, hf] at e1
      rw [hcb] at e2
      have q1 := e1.1
      have q2 := e1.2
      have q3 := e2.1
      gi_wp2
      go_roundw
      case rel =>
        have hq : wrap64 ((v k).tdiv base) = v (k + 1) := by
          have a1 := hv0 (k + 1)
          rw [hv k] at a1 ⊢
          rw [Int.tdiv_eq_ediv_of_nonneg (hv0 k).1]
          unfold wrap64; omega
        refine ⟨k + 1, by omega, ?_, hJ _ _ _ hJ3, ?_, ?_, ?_⟩
        · rw [show (4 : Int) - (k : Int) - 1 = 4 - ((k + 1 : Nat) : Int) by omega]
        · rw [hq]; exact World.cell?_setCell_same' _ _ _ (by rw [q1]; rfl)
        · rw [World.frozen?_setCell]; exact q2
        · exact (World.cell?_setCell_far W3 ⟨Bn, 0, none⟩ ⟨Bb, 0, none⟩ _ hne).trans q3
      case measure => simp [RowKit.intOf]; omega
    · obtain rfl : k = 5 := by omega
      gi_wp2
      refine ⟨fun _ _ => trivial, ?_⟩
      gi_wp2
      go_end0
      exact ⟨⟨_, rfl⟩, hj⟩
def digitEnc (base : Int) (v : Nat → Int) (k : Nat) : Array Value := #[.int .i64 (4 - k), .int .u8 ((v k).tmod base % 256)]
theorem digits_range {g : Operand} {ps : Array Tmp} {assign body : Code} {Q : Exit → Act → World → Prop} {a : Act} {w : World} {Bn Bb : Nat} {base : Int} (hb : 1 ≤ base ∧ base ≤ 10)
    {v : Nat → Int} (hv0 : ∀ k, 0 ≤ v k ∧ v k ≤ 9223372036854775807) (hv : ∀ k, v (k + 1) = v k / base) (hne : Bn ≠ Bb) (hBn : Bn < w.heap.size) (hBb : Bb < w.heap.size)
    (hg : a.eval g = .func (.func 72) #[] #[.pointer (some ⟨Bn, 0, none⟩), .pointer (some ⟨Bb, 0, none⟩)]) (hps : ps.size = 2)
    (h1 : w.heap[Bn]? = some (.cells #[.int .i64 (v 0)] 2 (0, 0))) (h2 : w.heap[Bb]? = some (.cells #[.int .i64 base] 2 (0, 0)))
    (I : Nat → World → Prop) (hI : OwnFrom w.heap.size I) (hIc : ∀ k W u, I k W → I k (W.setCell ⟨Bn, 0, none⟩ u)) (h0 : I 0 w) (a₁ : Nat → Act)
    (hassign : ∀ (l k : Nat) (W : World) (K : Act → World → Prop), k < 5 → K (a₁ k) W →
      assign.wpIn (Fence.wide.inRound l) 8 Try.prog (Exit.then K (fun _ _ _ => False)) { tmps := (ps.zip (digitEnc base v k)).foldl (fun t (p, v) => t.setIfInBounds p v) a.tmps, defers := [] } W)
    (hbody : ∀ (l k : Nat) (W : World), k < 5 → I k W → body.wpIn (Fence.wide.inRound l) 8 Try.prog (fun e _ W' => e = .normal ∧ KeepsOthers W W' ∧ I (k + 1) W' ∧ W'.heap[Bn]? = W.heap[Bn]? ∧ W'.heap[Bb]? = W.heap[Bb]?) (a₁ k) W)
    (hdone : ∀ (D : Nat) (W : World), w.heap.size ≤ D → I 5 W → W.heap[D]? = some (.deferred (some [])) → Q .normal { a with defers := { target := .collected D, args := #[] } :: a.defers } W) :
    (Code.rangeFunc g ps assign body).wpIn Fence.wide 10 Try.prog Q a w := by
  refine wpIn_rangeFunc fun fn _ => ?_
  have eg : ∀ args w, (callFunc 72 args).run Try.prog w = .ok (.enter 72 args) w := Go.E.enters_of Try.func72 rfl (by kernel_rfl)
  let rec_ (st : LoopState) : Loop := { state := st, pending := none, fn, tmps := a.tmps, params := ps, assign, body, defers := w.heap.size }
  let W1 := (w.alloc (.deferred (some []))).alloc (.loop (rec_ .ready))
  have hl1 : W1.heap[w.heap.size + 1]? = some (.loop (rec_ .ready)) := by
    have := World.alloc_heap_new (w.alloc (.deferred (some []))) (.loop (rec_ .ready)); rwa [World.size_alloc] at this
  have hd1 : W1.heap[w.heap.size]? = some (.deferred (some [])) := (Below.heap_alloc _ _ _ (by simp)).trans (World.alloc_heap_new w _)
  have old : ∀ B, B < w.heap.size → W1.heap[B]? = w.heap[B]? := fun B h => (Below.heap_alloc _ _ _ (by simp; omega)).trans (Below.heap_alloc _ _ _ h)
  refine ⟨w.heap.size + 1, [{ target := .collected w.heap.size, args := #[] }], W1,
    { target := .fn (.func 72) #[.pointer (some ⟨Bn, 0, none⟩), .pointer (some ⟨Bb, 0, none⟩)], args := #[.func (.yield (w.heap.size + 1)) #[] #[]] }, W1, 72,
    #[.func (.yield (w.heap.size + 1)) #[] #[], .pointer (some ⟨Bn, 0, none⟩), .pointer (some ⟨Bb, 0, none⟩)], W1, run_enterLoop_outer _ _ _ _ _, ?_, fun _ _ => trivial, ?_, fun _ => by decide, ?_⟩
  · simp only [resolve, hg]
    simp [go_sem]
  · simp [invoke, go_sem, eg]
  refine (digits1_in (w.heap.size + 1) Bn Bb base hb v hv0 hv hne
    (fun k W => I k W ∧ W.heap[w.heap.size + 1]? = some (.loop (rec_ .ready)) ∧ W.heap[w.heap.size]? = some (.deferred (some []))) ?_ ?_ W1 ((old _ hBn).trans h1) ((old _ hBb).trans h2)
    ⟨hI.alloc _ (hI.alloc _ h0), hl1, hd1⟩).mono ?_
  · rintro k W u ⟨hi, hl, hd⟩
    exact ⟨hIc k W u hi, (KeepsOthers.setCell W _ u).same _ _ hl rfl, (KeepsOthers.setCell W _ u).same _ _ hd rfl⟩
  · rintro k W hk ⟨hi, hl, hd⟩
    have hlt : w.heap.size + 1 < W.heap.size := (Array.getElem?_eq_some_iff.1 hl).1
    have hy := run_yield (P := Try.prog) (args := digitEnc base v k) hl (by show 2 = ps.size; exact hps.symm)
    refine ⟨fn, _, assign, body, hy, roundIn_of_wpIn trivial (hassign _ k W _ hk ⟨_, run_beginRound hl rfl, ?_⟩)⟩
    have hl2 : (W.putObj (w.heap.size + 1) (.loop (rec_ .busy))).heap[w.heap.size + 1]? = some (.loop (rec_ .busy)) := World.putObj_heap_same hlt
    have hd2 : (W.putObj (w.heap.size + 1) (.loop (rec_ .busy))).heap[w.heap.size]? = some (.deferred (some [])) := (World.putObj_heap_other (by omega)).trans hd
    refine wpIn_mono (hbody _ k _ hk (hI.putObj _ hi (by omega) hl rfl)) ?_
    rintro e a3 W3 ⟨rfl, hk3, hi3, kn, kb⟩
    have hl3 := hk3.same _ _ hl2 rfl
    have hd3 := hk3.same _ _ hd2 rfl
    refine ⟨_, _, run_endRound none hl3, rfl, ⟨hI.putObj _ hi3 (by omega) hl3 rfl, World.putObj_heap_same (Array.getElem?_eq_some_iff.1 hl3).1, (World.putObj_heap_other (by omega)).trans hd3⟩, ?_, ?_⟩
    · rw [World.putObj_heap_other (by omega), kn, World.putObj_heap_other (by omega)]
    · rw [World.putObj_heap_other (by omega), kb, World.putObj_heap_other (by omega)]
  · rintro e W2 ⟨⟨v, rfl⟩, hi, hl, hd⟩
    exact ⟨none, _, run_endLoop hl (by simp [rec_]), hdone _ _ (Nat.le_refl _) (hI.putObj _ hi (by omega) hl rfl) ((World.putObj_heap_other (by omega)).trans hd)⟩
end Go.Proofs
namespace Go.Proofs
open Go.RowKit
def dvV (b n : Int) : Nat → Int
  | 0 => n
  | k + 1 => dvV b n k / b
def digF (b n : Int) (i : Nat) : Int := dvV b n (4 - i) % b
theorem dv_bound {b n : Int} (hb : 1 ≤ b) (hn : 0 ≤ n ∧ n ≤ 9223372036854775807) : ∀ k, 0 ≤ dvV b n k ∧ dvV b n k ≤ 9223372036854775807
  | 0 => hn
  | k + 1 => by
    have h := dv_bound hb hn k
    have h1 : 0 ≤ dvV b n k / b := Int.ediv_nonneg h.1 (by omega)
    have h2 : dvV b n k / b ≤ dvV b n k := Int.ediv_le_self b h.1
    exact ⟨h1, Int.le_trans h2 h.2⟩
theorem digF_bound {b n : Int} (hb : 1 ≤ b ∧ b ≤ 10) (i : Nat) : 0 ≤ digF b n i ∧ digF b n i < b := ⟨Int.emod_nonneg _ (by omega), Int.emod_lt_of_pos _ (by omega)⟩
def cellE (s b n : Int) (k j : Nat) : Value := .int .u8 (if j = 0 then s else if 6 ≤ j + k then digF b n (j - 1) else 0)
def RoundI (s b n : Int) (X R n0 : Nat) (w0 : World) (k : Nat) (W : World) : Prop :=
  Below n0 w0 W ∧ (∀ j, j < 6 → W.cell? ⟨X, j, none⟩ = some (cellE s b n k j) ∧ W.frozen? ⟨X, j, none⟩ = false) ∧ ∀ j, j < 6 → W.cell? ⟨R, j, none⟩ = some (.int .u8 0) ∧ W.frozen? ⟨R, j, none⟩ = false
theorem cells_far {W : World} {X Y : Nat} {o : Nat} {u : Value} (h : Y ≠ X) (j : Nat) : (W.setCell ⟨Y, o, none⟩ u).cell? ⟨X, j, none⟩ = W.cell? ⟨X, j, none⟩ ∧ (W.setCell ⟨Y, o, none⟩ u).frozen? ⟨X, j, none⟩ = W.frozen? ⟨X, j, none⟩ :=
  ⟨World.cell?_setCell_far W _ _ _ h, World.frozen?_setCell _ _ _ _⟩
theorem RoundI.far {s b n : Int} {X R n0 : Nat} {w0 : World} {k : Nat} {W : World} {Y o : Nat} {u : Value} (h : RoundI s b n X R n0 w0 k W) (h0 : n0 ≤ Y) (hX : Y ≠ X) (hR : Y ≠ R) : RoundI s b n X R n0 w0 k (W.setCell ⟨Y, o, none⟩ u) :=
  ⟨h.1.setCell h0 u, fun j hj => by rw [(cells_far hX j).1, (cells_far hX j).2]; exact h.2.1 j hj, fun j hj => by rw [(cells_far hR j).1, (cells_far hR j).2]; exact h.2.2 j hj⟩
theorem shown_range {g : Operand} {ps : Array Tmp} {assign body : Code} {Q : Exit → Act → World → Prop} {a : Act} {w w0 : World} {Bn Bb X R n0 : Nat} {s base n : Int} (hb : 1 ≤ base ∧ base ≤ 10)
    (hn : 0 ≤ n ∧ n ≤ 9223372036854775807) (hne : Bn ≠ Bb) (hnX : Bn ≠ X) (hnR : Bn ≠ R) (hXR : X ≠ R) (hXn : X ≠ Bn) (hXb : X ≠ Bb) (n0n : n0 ≤ Bn) (n0X : n0 ≤ X) (n0w : n0 ≤ w0.heap.size) (hBn : Bn < w.heap.size) (hBb : Bb < w.heap.size)
    (hg : a.eval g = .func (.func 72) #[] #[.pointer (some ⟨Bn, 0, none⟩), .pointer (some ⟨Bb, 0, none⟩)]) (hps : ps.size = 2)
    (h1 : w.heap[Bn]? = some (.cells #[.int .i64 n] 2 (0, 0))) (h2 : w.heap[Bb]? = some (.cells #[.int .i64 base] 2 (0, 0)))
    (h0 : RoundI s base n X R n0 w0 0 w) (a₁ : Nat → Act)
    (hassign : ∀ (l k : Nat) (W : World) (K : Act → World → Prop), k < 5 → K (a₁ k) W →
      assign.wpIn (Fence.wide.inRound l) 8 Try.prog (Exit.then K (fun _ _ _ => False)) { tmps := (ps.zip #[.int .i64 (4 - k), .int .u8 (digF base n (4 - k))]).foldl (fun t (p, v) => t.setIfInBounds p v) a.tmps, defers := [] } W)
    (hbody : ∀ (l k : Nat) (W : World), k < 5 → (k : Int) ≤ 4 → W.cell? ⟨X, 1 + (4 - k), none⟩ = some (.int .u8 0) → W.frozen? ⟨X, 1 + (4 - k), none⟩ = false →
      body.wpIn (Fence.wide.inRound l) 8 Try.prog (fun e _ W' => e = .normal ∧ W' = W.setCell ⟨X, 1 + (4 - k), none⟩ (.int .u8 (digF base n (4 - k)))) (a₁ k) W)
    (hdone : ∀ (D : Nat) (W : World), w.heap.size ≤ D → RoundI s base n X R n0 w0 5 W → W.heap[D]? = some (.deferred (some [])) → Q .normal { a with defers := { target := .collected D, args := #[] } :: a.defers } W) :
    (Code.rangeFunc g ps assign body).wpIn Fence.wide 10 Try.prog Q a w := by
  have dig : ∀ k : Nat, k ≤ 4 → (dvV base n k).tmod base % 256 = digF base n (4 - k) := by
    intro k hk
    have h := (dv_bound hb.1 hn k).1
    rw [Int.tmod_eq_emod_of_nonneg h]
    unfold digF
    rw [show 4 - (4 - k) = k by omega]
    have h3 := Int.emod_nonneg (dvV base n k) (b := base) (by omega)
    have h4 := Int.emod_lt_of_pos (dvV base n k) (b := base) (by omega)
    omega
  have own : OwnFrom w.heap.size (RoundI s base n X R n0 w0) := by
    rintro k W W' row ⟨hb1, hx, hr⟩ hgr hrow
    have hro := fun r e => (hrow r e).2
    refine ⟨(ownFrom_below (β := Nat) (n₀ := n0) (B := w.heap.size) n0w (by omega)) k W W' row hb1 hgr hrow, fun j hj => ?_, fun j hj => ?_⟩
    · exact ⟨cell_kept (hx j hj).1 hgr hro, (frozen_kept (hx j hj).1 hgr hro).trans (hx j hj).2⟩
    · exact ⟨cell_kept (hr j hj).1 hgr hro, (frozen_kept (hr j hj).1 hgr hro).trans (hr j hj).2⟩
  refine digits_range hb (v := dvV base n) (dv_bound hb.1 hn) (fun _ => rfl) hne hBn hBb hg hps h1 h2 (RoundI s base n X R n0 w0) own (fun k W u h => h.far n0n hnX hnR) h0 a₁ ?_ ?_ hdone
  · intro l k W K hk hK
    have := hassign l k W K hk hK
    unfold digitEnc
    rw [dig k (by omega)]
    exact this
  · rintro l k W hk ⟨hb1, hx, hr⟩
    have hj : 1 + (4 - k) < 6 := by omega
    have h := hx _ hj
    have he : cellE s base n k (1 + (4 - k)) = .int .u8 0 := by
      rw [cellE, if_neg (by omega), if_neg (by omega)]
    rw [he] at h
    refine wpIn_mono (hbody l k W hk (by omega) h.1 h.2) ?_
    rintro e a' W' ⟨rfl, rfl⟩
    refine ⟨rfl, KeepsOthers.setCell W _ _, ⟨hb1.setCell n0X _, fun j hj6 => ?_, fun j hj6 => ?_⟩, Below.heap_setCell _ _ _ _ (fun c => hnX c), Below.heap_setCell _ _ _ _ (fun c => hXb c.symm)⟩
    · rw [World.frozen?_setCell]
      refine ⟨?_, (hx j hj6).2⟩
      by_cases hjj : j = 1 + (4 - k)
      · subst hjj
        rw [World.cell?_setCell_same' _ _ _ (by rw [h.1]; rfl), cellE, if_neg (by omega), if_pos (by omega)]
        rw [show 1 + (4 - k) - 1 = 4 - k by omega]
      · have hne : (⟨X, 1 + (4 - k), none⟩ : Addr) ≠ ⟨X, j, none⟩ := fun c => hjj (Addr.mk.inj c).2.1.symm
        refine (World.cell?_setCell_other W _ _ _ hne).trans ((hx j hj6).1.trans ?_)
        unfold cellE
        refine congrArg some (congrArg (Value.int .u8) ?_)
        by_cases h0 : j = 0
        · rw [if_pos h0, if_pos h0]
        · rw [if_neg h0, if_neg h0]
          by_cases h6 : 6 ≤ j + k
          · rw [if_pos h6, if_pos (by omega)]
          · rw [if_neg h6, if_neg (by omega)]
    · rw [(cells_far hXR j).1, (cells_far hXR j).2]; exact hr j hj6
def shV (s : Int) (f : Nat → Int) : Value := .agg #[.int .u8 s, .int .u8 (f 0), .int .u8 (f 1), .int .u8 (f 2), .int .u8 (f 3), .int .u8 (f 4)]
set_option maxHeartbeats 2000000 in
theorem digits_call (n b : Int) (w : World) : Calls Try.prog 58 #[.int .i64 n, .int .i64 b] w fun e w' => e = .returned (.func (.func 72) #[] #[.pointer (some ⟨w.heap.size, 0, none⟩), .pointer (some ⟨w.heap.size + 1, 0, none⟩)]) ∧ w' = (w.alloc (.cells #[.int .i64 n] 2)).alloc (.cells #[.int .i64 b] 2) := by
  go_enter Try.func58, Try.ntmps58
  go_wp2
  go_ret
  simp
theorem cells_at {W : World} {B : Nat} {vs : Array Value} {t : TypeId} (h : W.heap[B]? = some (.cells vs t (0, 0))) (j : Nat) (v : Value) (hv : vs[j]? = some v) : W.cell? ⟨B, j, none⟩ = some v ∧ W.frozen? ⟨B, j, none⟩ = false := by
  constructor
  · simp only [World.cell?, h]; exact hv
  · simp [World.frozen?, h]
theorem six_zero {j : Nat} (h : j < 6) : (#[.int .u8 0, .int .u8 0, .int .u8 0, .int .u8 0, .int .u8 0, .int .u8 0] : Array Value)[j]? = some (.int .u8 0) := by
  rcases j with _ | _ | _ | _ | _ | _ | j
  all_goals first | rfl | omega
theorem six_cells {W : World} {R : Nat} {v0 v1 v2 v3 v4 v5 : Value} (h0 : (W.cell? ⟨R, 0, none⟩).isSome = true) (h1 : (W.cell? ⟨R, 1, none⟩).isSome = true) (h2 : (W.cell? ⟨R, 2, none⟩).isSome = true) (h3 : (W.cell? ⟨R, 3, none⟩).isSome = true) (h4 : (W.cell? ⟨R, 4, none⟩).isSome = true) (h5 : (W.cell? ⟨R, 5, none⟩).isSome = true) :
    let W6 := (((((W.setCell ⟨R, 0, none⟩ v0).setCell ⟨R, 1, none⟩ v1).setCell ⟨R, 2, none⟩ v2).setCell ⟨R, 3, none⟩ v3).setCell ⟨R, 4, none⟩ v4).setCell ⟨R, 5, none⟩ v5
    W6.cell? ⟨R, 0, none⟩ = some v0 ∧ W6.cell? ⟨R, 1, none⟩ = some v1 ∧ W6.cell? ⟨R, 2, none⟩ = some v2 ∧ W6.cell? ⟨R, 3, none⟩ = some v3 ∧ W6.cell? ⟨R, 4, none⟩ = some v4 ∧ W6.cell? ⟨R, 5, none⟩ = some v5 := by
  have far : ∀ (W : World) (i j : Nat) (v : Value), i ≠ j → (W.setCell ⟨R, i, none⟩ v).cell? ⟨R, j, none⟩ = W.cell? ⟨R, j, none⟩ := fun W i j v h => World.cell?_setCell_other W _ _ _ (fun c => h (Addr.mk.inj c).2.1)
  refine ⟨?_, ?_, ?_, ?_, ?_, ?_⟩
  · rw [far _ _ _ _ (by decide), far _ _ _ _ (by decide), far _ _ _ _ (by decide), far _ _ _ _ (by decide), far _ _ _ _ (by decide), World.cell?_setCell_same' _ _ _ h0]
  · rw [far _ _ _ _ (by decide), far _ _ _ _ (by decide), far _ _ _ _ (by decide), far _ _ _ _ (by decide), World.cell?_setCell_same' _ _ _ (by rw [far _ _ _ _ (by decide)]; exact h1)]
  · rw [far _ _ _ _ (by decide), far _ _ _ _ (by decide), far _ _ _ _ (by decide), World.cell?_setCell_same' _ _ _ (by rw [far _ _ _ _ (by decide), far _ _ _ _ (by decide)]; exact h2)]
  · rw [far _ _ _ _ (by decide), far _ _ _ _ (by decide), World.cell?_setCell_same' _ _ _ (by rw [far _ _ _ _ (by decide), far _ _ _ _ (by decide), far _ _ _ _ (by decide)]; exact h3)]
  · rw [far _ _ _ _ (by decide), World.cell?_setCell_same' _ _ _ (by rw [far _ _ _ _ (by decide), far _ _ _ _ (by decide), far _ _ _ _ (by decide), far _ _ _ _ (by decide)]; exact h4)]
  · rw [World.cell?_setCell_same' _ _ _ (by rw [far _ _ _ _ (by decide), far _ _ _ _ (by decide), far _ _ _ _ (by decide), far _ _ _ _ (by decide), far _ _ _ _ (by decide)]; exact h5)]
theorem cell_five0 {s b n : Int} : cellE s b n 5 0 = .int .u8 s := rfl
theorem cell_five_ {s b n : Int} {j : Nat} : cellE s b n 5 (j + 1) = .int .u8 (digF b n j) := by
  unfold cellE
  rw [if_neg (by omega), if_pos (by omega), Nat.add_sub_cancel]
set_option maxHeartbeats 4000000 in
set_option maxRecDepth 1000000 in
theorem octal_walk (x q : Int) (hq : wrap64 (bits BinOp.and IntKind.u16 x 32767) = q) (hx1 : 0 ≤ q ∧ q ≤ 9223372036854775807) (w : World) : Calls Try.prog 44 #[.int .u16 x] w fun e w' => e = .returned (shV 0 (digF 8 q)) ∧ Below w.heap.size w w' := by
  refine callsIn_wide.1 (callsIn_of_wp_marks (n := 10) Try.func44 rfl trivial ?_ rfl)
  simp only [Try.ntmps44, List.size_toArray, List.length_cons, List.length_nil, Nat.reduceAdd, Nat.reduceSub, Array.replicate_succ, Array.replicate_zero, List.push_toArray, List.append_toArray, List.nil_append, List.cons_append]
  gi_wp2
  refine ⟨trivial, (callsIn_wide.2 (digits_call _ _ _)).mono ?_⟩
  rintro e w' ⟨rfl, rfl⟩
  gi_wp2
  generalize hW : World.alloc _ _ = W4
  have hs : W4.heap.size = w.heap.size + 4 := by rw [← hW]; simp
  have hb4 : Below w.heap.size w W4 := by
    rw [← hW]
    exact ((((Below.refl _ w).alloc (Nat.le_refl _) _).alloc (by simp) _).alloc (by simp only [World.size_alloc]; omega) _).alloc (by simp only [World.size_alloc]; omega) _
  have hR : W4.heap[w.heap.size]? = some (.cells #[.int .u8 0, .int .u8 0, .int .u8 0, .int .u8 0, .int .u8 0, .int .u8 0] 28 (0, 0)) := by
    rw [← hW]
    exact (Below.heap_alloc _ _ _ (by simp only [World.size_alloc]; omega)).trans ((Below.heap_alloc _ _ _ (by simp only [World.size_alloc]; omega)).trans ((Below.heap_alloc _ _ _ (by simp)).trans (World.alloc_heap_new _ _)))
  have hX : W4.heap[w.heap.size + 1]? = some (.cells #[.int .u8 0, .int .u8 0, .int .u8 0, .int .u8 0, .int .u8 0, .int .u8 0] 28 (0, 0)) := by
    rw [← hW]
    refine (Below.heap_alloc _ _ _ (by simp)).trans ((Below.heap_alloc _ _ _ (by simp)).trans ?_)
    have := World.alloc_heap_new (w.alloc (.cells #[.int .u8 0, .int .u8 0, .int .u8 0, .int .u8 0, .int .u8 0, .int .u8 0] 28)) (.cells #[.int .u8 0, .int .u8 0, .int .u8 0, .int .u8 0, .int .u8 0, .int .u8 0] 28)
    rwa [World.size_alloc] at this
  have hN : W4.heap[w.heap.size + 1 + 1]? = some (.cells #[.int .i64 q] 2 (0, 0)) := by
    rw [← hW]
    refine (Below.heap_alloc _ _ _ (by simp)).trans ?_
    have := World.alloc_heap_new ((w.alloc (.cells #[.int .u8 0, .int .u8 0, .int .u8 0, .int .u8 0, .int .u8 0, .int .u8 0] 28)).alloc (.cells #[.int .u8 0, .int .u8 0, .int .u8 0, .int .u8 0, .int .u8 0, .int .u8 0] 28)) (.cells #[.int .i64 q] 2)
    rwa [World.size_alloc, World.size_alloc] at this
  have hB : W4.heap[w.heap.size + 1 + 1 + 1]? = some (.cells #[.int .i64 8] 2 (0, 0)) := by
    rw [← hW]
    have := World.alloc_heap_new (((w.alloc (.cells #[.int .u8 0, .int .u8 0, .int .u8 0, .int .u8 0, .int .u8 0, .int .u8 0] 28)).alloc (.cells #[.int .u8 0, .int .u8 0, .int .u8 0, .int .u8 0, .int .u8 0, .int .u8 0] 28)).alloc (.cells #[.int .i64 q] 2)) (.cells #[.int .i64 8] 2)
    rwa [World.size_alloc, World.size_alloc, World.size_alloc] at this
  clear hW
  refine shown_range (s := 0) (base := 8) (n := q) (X := w.heap.size + 1) (R := w.heap.size) (n0 := w.heap.size) (w0 := w) (by decide) hx1 (by omega) (by omega) (by omega) (by omega) (by omega) (by omega) (by omega) (by omega) (Nat.le_refl _) (by omega) (by omega) rfl rfl hN hB
    ⟨hb4, fun j hj => ?_, fun j hj => ?_⟩
    (fun k => { tmps := #[.int .u16 x, undef, .pointer (some ⟨w.heap.size, 0, none⟩), .pointer (some ⟨w.heap.size + 1, 0, none⟩), .int .i64 (4 - k), .int .u8 (digF 8 q (4 - k)), .int .u16 x, .int .u16 (bits BinOp.and IntKind.u16 x 32767), .int .i64 q, .func (.func 72) #[] #[.pointer (some ⟨w.heap.size + 1 + 1, 0, none⟩), .pointer (some ⟨w.heap.size + 1 + 1 + 1, 0, none⟩)], .int .i64 (4 - k), .int .u8 (digF 8 q (4 - k)), undef, undef, undef, undef, undef], defers := [] }) ?_ ?_ ?_
  · have h := cells_at hX j (.int .u8 0) (six_zero hj)
    refine ⟨h.1.trans ?_, h.2⟩
    unfold cellE
    split
    · rfl
    · rw [if_neg (by omega)]
  · exact cells_at hR j (.int .u8 0) (six_zero hj)
  · intro l k W K hk hK
    have sem := Oper.semAt_some l
    gi_wp2
    exact hK
  · intro l k W hk hk4 hc hf
    have sem := Oper.semAt_some l
    gi_wp2
  · rintro D W hD ⟨hb5, hx, hr⟩ hd
    obtain ⟨x0, _⟩ := hx 0 (by decide)
    rw [cell_five0] at x0
    obtain ⟨x1, _⟩ := hx 1 (by decide)
    rw [show cellE _ _ _ 5 (0 + 1) = _ from cell_five_] at x1
    obtain ⟨x2, _⟩ := hx 2 (by decide)
    rw [show cellE _ _ _ 5 (1 + 1) = _ from cell_five_] at x2
    obtain ⟨x3, _⟩ := hx 3 (by decide)
    rw [show cellE _ _ _ 5 (2 + 1) = _ from cell_five_] at x3
    obtain ⟨x4, _⟩ := hx 4 (by decide)
    rw [show cellE _ _ _ 5 (3 + 1) = _ from cell_five_] at x4
    obtain ⟨x5, _⟩ := hx 5 (by decide)
    rw [show cellE _ _ _ 5 (4 + 1) = _ from cell_five_] at x5
    obtain ⟨r0, f0⟩ := hr 0 (by decide)
    obtain ⟨r1, f1⟩ := hr 1 (by decide)
    obtain ⟨r2, f2⟩ := hr 2 (by decide)
    obtain ⟨r3, f3⟩ := hr 3 (by decide)
    obtain ⟨r4, f4⟩ := hr 4 (by decide)
    obtain ⟨r5, f5⟩ := hr 5 (by decide)
    clear hx hr
    gi_wp2
    have hk : KeepsOthers W (((((W.setCell ⟨w.heap.size, 0, none⟩ (.int .u8 0)).setCell ⟨w.heap.size, 1, none⟩ (.int .u8 (digF 8 q 0))).setCell ⟨w.heap.size, 2, none⟩ (.int .u8 (digF 8 q 1))).setCell ⟨w.heap.size, 3, none⟩ (.int .u8 (digF 8 q 2))).setCell ⟨w.heap.size, 4, none⟩ (.int .u8 (digF 8 q 3))) :=
      ((((KeepsOthers.setCell _ _ _).trans (KeepsOthers.setCell _ _ _)).trans (KeepsOthers.setCell _ _ _)).trans (KeepsOthers.setCell _ _ _)).trans (KeepsOthers.setCell _ _ _)
    have hK' := (hk.trans (KeepsOthers.setCell _ ⟨w.heap.size, 5, none⟩ (.int .u8 (digF 8 q 4)))).same D _ hd rfl
    have h6 := six_cells (W := W) (R := w.heap.size) (v0 := .int .u8 0) (v1 := .int .u8 (digF 8 q 0)) (v2 := .int .u8 (digF 8 q 1)) (v3 := .int .u8 (digF 8 q 2)) (v4 := .int .u8 (digF 8 q 3)) (v5 := .int .u8 (digF 8 q 4)) (by rw [r0]; rfl) (by rw [r1]; rfl) (by rw [r2]; rfl) (by rw [r3]; rfl) (by rw [r4]; rfl) (by rw [r5]; rfl)
    have hb6 := (((((hb5.setCell (p := ⟨w.heap.size, 0, none⟩) (Nat.le_refl _) (.int .u8 0)).setCell (p := ⟨w.heap.size, 1, none⟩) (Nat.le_refl _) (.int .u8 (digF 8 q 0))).setCell (p := ⟨w.heap.size, 2, none⟩) (Nat.le_refl _) (.int .u8 (digF 8 q 1))).setCell (p := ⟨w.heap.size, 3, none⟩) (Nat.le_refl _) (.int .u8 (digF 8 q 2))).setCell (p := ⟨w.heap.size, 4, none⟩) (Nat.le_refl _) (.int .u8 (digF 8 q 3))).setCell (p := ⟨w.heap.size, 5, none⟩) (Nat.le_refl _) (.int .u8 (digF 8 q 4))
    generalize World.setCell _ _ _ = W6 at hK' h6 hb6 ⊢
    have up := fun {a : Addr} {v : Value} (h : W6.cell? a = some v) => cell_kept h (grownBy_putObj' W6 D (.deferred none)) (fun r e => by cases e; exact ⟨_, hK', rfl⟩)
    obtain ⟨g0, g1, g2, g3, g4, g5⟩ := h6
    have g0 := up g0
    have g1 := up g1
    have g2 := up g2
    have g3 := up g3
    have g4 := up g4
    have g5 := up g5
    refine ⟨by simp, .inl ⟨_, _, rfl, run_takeDeferred hK', ?_⟩⟩
    refine ⟨shV 0 (digF 8 q), ?_, rfl, ?_⟩
    · simp [results, Try.f44, go_sem, shV, g0, g1, g2, g3, g4, g5]
    · exact hb6.grown (grownBy_putObj' W6 D (.deferred none)) (by have := hb6.size; omega) (fun k e => by cases e; omega)
end Go.Proofs
