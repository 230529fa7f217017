/- The engine, tables: the package-level tables of numbers that the program's text lays of this seat. -/
import Derived.Calls
import Derived.Below
import Derived.Lib.FrozenHead
import Derived.WalkKit
set_option linter.unusedVariables false
set_option linter.unusedSimpArgs false
namespace Go.E
def seatTabs : List (Nat × IntKind × List Int) := []
def readFns : List Nat := [61]
def seatSB : Option (Nat × Nat) := none
end Go.E
namespace Go.E
structure AAddr where
  blk : Nat
  idx : Nat
  off : Nat
inductive AVal where
  | any
  | int (k : IntKind) (n : Int)
  | bool (b : Bool)
  | str (s : ByteArray)
  | nilptr
  | ptr (a : AAddr)
  | nilslice
  | slice (a : AAddr) (n : Nat)
  | ro (size n : Nat) (row : Nat → List AVal)
  | roptr (size n : Nat) (row : Nat → List AVal) (idx off : Nat)
  | agg (cs : List AVal)
  | tuple (vs : List AVal)
  | fn (f : Fn) (first captured : List AVal)
  | nilfn
instance : Inhabited AVal := ⟨.any⟩
inductive Blk where
  | dead
  | cells (cs : List AVal)
  | ints (k : IntKind) (l : List Int)
  | rows (size n : Nat) (f : Nat → List AVal)
  | iter (s : ByteArray) (pos : Nat)
  | sb (l : List UInt8)
instance : Inhabited Blk := ⟨.dead⟩
abbrev Heap := List Blk
inductive TD where
  | int (k : IntKind) | bool | str | ptr | slice (e : Nat) | arr (n : Nat) (e : Nat) | struct (fs : List (Nat × Nat)) | func | other
structure TI where
  size : Nat
  bytes : Nat
  desc : TD
  zero : Option (List AVal)
  plain : Bool
abbrev TEnv := List TI
def TI.isAgg (t : TI) : Bool := match t.desc with | .arr .. => true | .struct _ => true | _ => false
inductive AExit where
  | normal | exit (id : Nat) | ret
abbrev AQ := AExit → List AVal → Heap → Prop
@[irreducible] def branch (b : Bool) (T E : Prop) : Prop := (b = true → T) ∧ (b = false → E)
@[irreducible] def need (p K : Prop) : Prop := p ∧ K
@[irreducible] def choice (A B : Prop) : Prop := A ∨ B
theorem branch_intro {b : Bool} {T E : Prop} (h1 : b = true → T) (h2 : b = false → E) : branch b T E := by unfold branch; exact ⟨h1, h2⟩
theorem need_intro {p K : Prop} (h1 : p) (h2 : K) : need p K := by unfold need; exact ⟨h1, h2⟩
theorem choice_l {A B : Prop} (h : A) : choice A B := by unfold choice; exact .inl h
theorem choice_r {A B : Prop} (h : B) : choice A B := by unfold choice; exact .inr h
section
variable {α : Type}
def takeL : Nat → List α → (List α → Prop) → Prop
  | 0, _, k => k []
  | _ + 1, [], _ => False
  | n + 1, a :: r, k => takeL n r fun r' => k (a :: r')
def dropTakeL : Nat → Nat → List α → (List α → Prop) → Prop
  | 0, n, l, k => takeL n l k
  | _ + 1, _, [], _ => False
  | i + 1, n, _ :: r, k => dropTakeL i n r k
def setL : List α → Nat → α → (List α → Prop) → Prop
  | [], _, _, k => k []
  | _ :: r, 0, v, k => k (v :: r)
  | a :: r, i + 1, v, k => setL r i v fun r' => k (a :: r')
def snocL : List α → α → (List α → Prop) → Prop
  | [], v, k => k [v]
  | a :: r, v, k => snocL r v fun r' => k (a :: r')
def overL : List α → List α → (List α → Prop) → Prop
  | [], l, k => k l
  | _ :: _, [], _ => False
  | v :: vs, _ :: r, k => overL vs r fun r' => k (v :: r')
def spliceL : Nat → List α → List α → (List α → Prop) → Prop
  | 0, new, l, k => overL new l k
  | _ + 1, _, [], _ => False
  | i + 1, new, a :: r, k => spliceL i new r fun r' => k (a :: r')
def getL : List α → Nat → (α → Prop) → Prop
  | [], _, _ => False
  | a :: _, 0, k => k a
  | _ :: r, i + 1, k => getL r i k
def repL : Nat → α → (List α → Prop) → Prop
  | 0, _, k => k []
  | n + 1, a, k => repL n a fun r => k (a :: r)
def lenL : List α → (Nat → Prop) → Prop
  | [], k => k 0
  | _ :: r, k => lenL r fun n => k (n + 1)
def appL : List α → List α → (List α → Prop) → Prop
  | [], l, k => k l
  | a :: r, l, k => appL r l fun r' => k (a :: r')
end
def whenB (b : Bool) (K : Prop) : Prop := match b with | true => K | false => False
def AVal.ofV1 : Value → AVal
  | .int k n => .int k n
  | .bool b => .bool b
  | .string s => .str s
  | .pointer none => .nilptr
  | .slice none 0 0 => .nilslice
  | .nilFunc => .nilfn
  | _ => .any
def AVal.ofV : Value → AVal
  | .agg cs => .agg (cs.toList.map .ofV1)
  | v => .ofV1 v
def evalO (tm : List AVal) : Operand → AVal
  | .tmp t => tm.getD t .any
  | .const v => .ofV v
  | .func f => .fn (.func f) [] []
  | .global _ => .any
def AVal.cells : AVal → List AVal
  | .agg cs => cs
  | v => [v]
def AVal.one : AVal → Bool
  | .int .. | .bool _ | .str _ | .nilptr | .ptr _ | .nilslice | .slice .. | .ro .. | .roptr .. | .fn .. | .nilfn => true
  | _ => false
def allOne : List AVal → Bool
  | [] => true
  | v :: r => match v.one with | true => allOne r | false => false
def AVal.closed : AVal → Bool
  | .int .. | .bool _ | .str _ | .nilptr | .nilslice | .ro .. | .nilfn => true
  | _ => false
def allClosed : List AVal → Bool
  | [] => true
  | v :: r => match v.closed with | true => allClosed r | false => false
def force (v : AVal) (k : AVal → Prop) : Prop := match v with
  | .any => k .any
  | .int a b => k (.int a b)
  | .bool b => k (.bool b)
  | .str s => k (.str s)
  | .nilptr => k .nilptr
  | .ptr ⟨b, i, j⟩ => k (.ptr ⟨b, i, j⟩)
  | .nilslice => k .nilslice
  | .slice ⟨b, i, j⟩ n => k (.slice ⟨b, i, j⟩ n)
  | .ro s n r => k (.ro s n r)
  | .roptr s n r i j => k (.roptr s n r i j)
  | .agg cs => k (.agg cs)
  | .tuple vs => k (.tuple vs)
  | .fn f a b => k (.fn f a b)
  | .nilfn => k .nilfn
def sameKind : IntKind → IntKind → Bool
  | .i8, .i8 | .i16, .i16 | .i32, .i32 | .i64, .i64 | .u8, .u8 | .u16, .u16 | .u32, .u32 | .u64, .u64 => true
  | _, _ => false
def intBin (op : BinOp) (k : IntKind) (a b : Int) (K : AVal → Prop) : Prop :=
  match op with
  | .add => K (.int k (k.wrap (a + b)))
  | .sub => K (.int k (k.wrap (a - b)))
  | .mul => K (.int k (k.wrap (a * b)))
  | .quo => need (b ≠ 0) (K (.int k (k.wrap (a.tdiv b))))
  | .rem => need (b ≠ 0) (K (.int k (a.tmod b)))
  | .and => K (.int k (k.wrap (BitVec.ofInt k.bits a &&& BitVec.ofInt k.bits b).toNat))
  | .or => K (.int k (k.wrap (BitVec.ofInt k.bits a ||| BitVec.ofInt k.bits b).toNat))
  | .xor => K (.int k (k.wrap (BitVec.ofInt k.bits a ^^^ BitVec.ofInt k.bits b).toNat))
  | .andNot => K (.int k (k.wrap (BitVec.ofInt k.bits a &&& ~~~ BitVec.ofInt k.bits b).toNat))
  | .eql => K (.bool (a == b))
  | .neq => K (.bool (a != b))
  | .lss => K (.bool (decide (a < b)))
  | .leq => K (.bool (decide (a ≤ b)))
  | .gtr => K (.bool (decide (a > b)))
  | .geq => K (.bool (decide (a ≥ b)))
  | .shl | .shr => False
def intShift (op : BinOp) (k : IntKind) (a b : Int) (K : AVal → Prop) : Prop :=
  match op with
  | .shl => need (0 ≤ b) (K (.int k (k.wrap (a * 2 ^ (min b.toNat k.bits)))))
  | .shr => need (0 ≤ b) (K (.int k (a.fdiv (2 ^ (min b.toNat k.bits)))))
  | _ => False
def isShift : BinOp → Bool
  | .shl | .shr => true
  | _ => false
def eqT (T : TEnv) : Nat → Nat → List AVal → List AVal → (Bool → Prop) → Prop
  | 0, _, _, _, _ => False
  | d + 1, t, xs, ys, k =>
    match T[t]? with
    | none => False
    | some ti => whenB ti.plain (match ti.desc with
      | .int _ => (match xs, ys with
        | [.int a x], [.int b y] => whenB (sameKind a b) (k (x == y))
        | _, _ => False)
      | .bool => (match xs, ys with
        | [.bool x], [.bool y] => k (x == y)
        | _, _ => False)
      | .str => (match xs, ys with
        | [.str x], [.str y] => k (x == y)
        | _, _ => False)
      | .arr n e => (match T[e]? with
        | none => False
        | some te => whenB (Nat.blt 0 te.size) (eqElems te.size (fun xs ys k => eqT T d e xs ys k) n 0 xs ys k))
      | .struct fs => eqFields T (fun e xs ys k => eqT T d e xs ys k) fs xs ys k
      | _ => False)
where
  eqElems (sz : Nat) (f : List AVal → List AVal → (Bool → Prop) → Prop) : Nat → Nat → List AVal → List AVal → (Bool → Prop) → Prop
    | 0, _, _, _, k => k true
    | n + 1, i, xs, ys, k => dropTakeL (i * sz) sz xs fun x => dropTakeL (i * sz) sz ys fun y => f x y fun b => eqElems sz f n (i + 1) xs ys fun b' => k (b && b')
  eqFields (T : TEnv) (f : Nat → List AVal → List AVal → (Bool → Prop) → Prop) : List (Nat × Nat) → List AVal → List AVal → (Bool → Prop) → Prop
    | [], _, _, k => k true
    | (o, e) :: r, xs, ys, k => match T[e]? with
      | none => False
      | some te => whenB (Nat.blt 0 te.size) (dropTakeL o te.size xs fun x => dropTakeL o te.size ys fun y => f e x y fun b => eqFields T f r xs ys fun b' => k (b && b'))
def eqW (op : BinOp) (b : Bool) (K : AVal → Prop) : Prop := match op with
  | .eql => K (.bool b)
  | .neq => K (.bool (!b))
  | _ => False
def strBin (op : BinOp) (a b : ByteArray) (K : AVal → Prop) : Prop := match op with
  | .eql => K (.bool (a.toList == b.toList))
  | .neq => K (.bool (!(a.toList == b.toList)))
  | .add => need (((a.size + b.size : Nat) : Int) ≤ IntKind.i64.max) (K (.str (a ++ b)))
  | _ => False
def binW (T : TEnv) (op : BinOp) (t : Nat) (x y : AVal) (K : AVal → Prop) : Prop :=
  match x, y with
  | .int k a, .int k' b => (match isShift op with
    | true => intShift op k a b K
    | false => (match sameKind k k' with | true => intBin op k a b K | false => False))
  | .bool a, .bool b => (match T[t]? with
    | some ⟨_, _, .bool, _, _⟩ => eqW op (a == b) K
    | _ => False)
  | .str a, .str b => strBin op a b K
  | .nilptr, .nilptr => (match T[t]? with | some ⟨_, _, .ptr, _, _⟩ => eqW op true K | _ => False)
  | .ptr _, .nilptr => (match T[t]? with | some ⟨_, _, .ptr, _, _⟩ => eqW op false K | _ => False)
  | .agg xs, .agg ys => (match T[t]? with
    | some ti => whenB ti.isAgg (eqT T 8 t xs ys fun b => eqW op b K)
    | none => False)
  | _, _ => False
def fillW (place : Nat → Option (Nat × Nat)) (tm : List AVal) : List (Nat × Operand) → List AVal → (List AVal → Prop) → Prop
  | [], cells, k => k cells
  | (i, x) :: rest, cells, k => match place i with
    | none => False
    | some (off, size) => force (evalO tm x) fun v => whenB (allOne v.cells) (lenL v.cells fun m => whenB (Nat.beq m size) (spliceL off v.cells cells fun cells' => fillW place tm rest cells' k))
def fieldsOk (T : TEnv) : List (Nat × Nat) → Bool
  | [] => true
  | (_, e) :: r => match T[e]? with | some _ => fieldsOk T r | none => false
def placeS (T : TEnv) (fs : List (Nat × Nat)) (i : Nat) : Option (Nat × Nat) :=
  match fs[i]? with | none => none | some (o, e) => (match T[e]? with | none => none | some te => some (o, te.size))
def partW (ti : TI) (cs : List AVal) (off : Nat) (k : AVal → Prop) : Prop :=
  match ti.isAgg with
  | true => dropTakeL off ti.size cs fun r => k (.agg r)
  | false => getL cs off fun v => force v k
def evalL (tm : List AVal) : List Operand → (List AVal → Prop) → Prop
  | [], k => k []
  | o :: r, k => force (evalO tm o) fun v => evalL tm r fun vs => k (v :: vs)
def sizeT (T : TEnv) (t : Nat) : Option Nat := (T[t]?).map (·.size)
def boundsW (n : Nat) (lo hi : Option AVal) (k : Nat → Nat → Prop) : Prop :=
  match lo, hi with
  | none, none => k 0 n
  | some (.int _ l), none => need (0 ≤ l ∧ l ≤ n) (k l.toNat n)
  | none, some (.int _ h) => need (0 ≤ h ∧ h ≤ n) (k 0 h.toNat)
  | some (.int _ l), some (.int _ h) => need (0 ≤ l ∧ l ≤ h ∧ h ≤ n) (k l.toNat h.toNat)
  | _, _ => False
def lenW (T : TEnv) (t : Nat) (x : AVal) (k : AVal → Prop) : Prop :=
  match T[t]?, x with
  | some ⟨_, _, .str, _, _⟩, .str s => k (.int .i64 s.size)
  | some ⟨_, _, .slice _, _, _⟩, .slice _ n => k (.int .i64 n)
  | some ⟨_, _, .slice _, _, _⟩, .ro _ n _ => k (.int .i64 n)
  | some ⟨_, _, .slice _, _, _⟩, .nilslice => k (.int .i64 0)
  | some ⟨_, _, .arr n _, _, _⟩, _ => k (.int .i64 n)
  | _, _ => False
def minInt (k : IntKind) (isMax : Bool) : Int → List AVal → (AVal → Prop) → Prop
  | x, [], K => K (.int k x)
  | x, .int k' y :: r, K => (match sameKind k k' with
    | true => minInt k isMax (match isMax with | true => (if y > x then y else x) | false => (if y < x then y else x)) r K
    | false => False)
  | _, _, _ => False
def pureW (T : TEnv) (op : Op) (tm : List AVal) (k : AVal → Prop) : Prop :=
  match op with
  | .move x | .assign x => force (evalO tm x) k
  | .pick c a b => (match evalO tm c with
    | .bool t => branch t (force (evalO tm a) k) (force (evalO tm b) k)
    | _ => False)
  | .build t parts => (match T[t]? with
    | some ⟨_, _, .struct fs, some z, _⟩ => whenB (fieldsOk T fs) (fillW (placeS T fs) tm parts.toList z fun cs => k (.agg cs))
    | some ⟨_, _, .arr _ e, some z, _⟩ => (match T[e]? with
      | some te => fillW (fun i => some (i * te.size, te.size)) tm parts.toList z fun cs => k (.agg cs)
      | none => False)
    | _ => False)
  | .nilCheck x => (match evalO tm x with
    | .ptr ⟨b, i, j⟩ => k (.ptr ⟨b, i, j⟩)
    | .roptr s n r i j => k (.roptr s n r i j)
    | .fn (.func f) a b => k (.fn (.func f) a b)
    | _ => False)
  | .binOp op t x y _ => binW T op t (evalO tm x) (evalO tm y) k
  | .unOp op _ x => (match op, evalO tm x with
    | .not, .bool b => k (.bool (!b))
    | .neg, .int kk n => k (.int kk (kk.wrap (0 - n)))
    | .xor, .int kk n => k (.int kk (kk.wrap (BitVec.ofInt kk.bits (if kk.signed then -1 else kk.max) ^^^ BitVec.ofInt kk.bits n).toNat))
    | _, _ => False)
  | .convert src dst x => (match T[src]?, T[dst]?, evalO tm x with
    | some _, some ⟨_, _, .int kk, _, _⟩, .int _ n => k (.int kk (kk.wrap n))
    | some ⟨_, _, .str, _, _⟩, some ⟨_, _, .str, _, _⟩, .str s => k (.str s)
    | _, _, _ => False)
  | .fieldAddr t x f => (match T[t]? with
    | some ⟨_, _, .struct fs, _, _⟩ => (match fs[f]? with
      | some (o, e) => (match T[e]? with
        | some te => whenB (Nat.blt 0 te.size) (match evalO tm x with
          | .ptr ⟨b, i, j⟩ => k (.ptr ⟨b, i, j + o⟩)
          | .roptr sz n row i j => k (.roptr sz n row i (j + o))
          | _ => False)
        | none => False)
      | none => False)
    | _ => False)
  | .field t x f => (match T[t]?, evalO tm x with
    | some ⟨_, _, .struct fs, _, _⟩, .agg cs => (match fs[f]? with
      | some (o, e) => (match T[e]? with
        | some te => partW te cs o k
        | none => False)
      | none => False)
    | _, _ => False)
  | .index t x i => (match T[t]?, evalO tm x, evalO tm i with
    | some ⟨_, _, .arr n e, _, _⟩, .agg cs, .int _ i => need (0 ≤ i ∧ i < n) (match T[e]? with
      | some te => partW te cs (i.toNat * te.size) k
      | none => False)
    | some ⟨_, _, .str, _, _⟩, .str st, .int _ i => need (0 ≤ i ∧ i < st.size) (k (.int .u8 ((st.data.toList.getD i.toNat 0).toNat)))
    | _, _, _ => False)
  | .indexAddr t x i => (match T[t]?, evalO tm x, evalO tm i with
    | some ⟨_, _, .slice e, _, _⟩, .ro sz n row, .int _ i => (match sizeT T e with
      | some es => whenB (Nat.beq es sz) (need (0 ≤ i ∧ i < n) (k (.roptr sz n row i.toNat 0)))
      | none => False)
    | some ⟨_, _, .arr n e, _, _⟩, .ptr ⟨b, i0, j0⟩, .int _ i => (match sizeT T e with
      | some es => need (0 ≤ i ∧ i < n) (k (.ptr ⟨b, i0, j0 + i.toNat * es⟩))
      | none => False)
    | some ⟨_, _, .arr n e, _, _⟩, .roptr sz m row i0 j0, .int _ i => (match sizeT T e with
      | some es => need (0 ≤ i ∧ i < n) (k (.roptr sz m row i0 (j0 + i.toNat * es)))
      | none => False)
    | _, _, _ => False)
  | .extract t i => (match evalO tm t with | .tuple vs => getL vs i fun v => force v k | _ => False)
  | .makeFunc f first cap => evalL tm first.toList fun a => evalL tm cap.toList fun b => k (.fn f a b)
  | .slice t x lo hi none => (match T[t]?, evalO tm x with
    | some ⟨_, _, .str, _, _⟩, .str s => boundsW s.size (lo.map (evalO tm)) (hi.map (evalO tm)) fun l h => k (.str (s.extract l h))
    | some ⟨_, _, .slice e, _, _⟩, .ro sz n row => (match sizeT T e with
      | some es => whenB (Nat.beq es sz) (boundsW n (lo.map (evalO tm)) (hi.map (evalO tm)) fun l h => k (.ro sz (h - l) fun i => row (l + i)))
      | none => False)
    | some ⟨_, _, .slice e, _, _⟩, .nilslice => (match sizeT T e with
      | some _ => boundsW 0 (lo.map (evalO tm)) (hi.map (evalO tm)) fun _ _ => k .nilslice
      | none => False)
    | _, _ => False)
  | .call ⟨.builtin .len, args, ts⟩ => (match args.toList, ts.toList with
    | [x], [t] => lenW T t (evalO tm x) k
    | _, _ => False)
  | .call ⟨.builtin .min, args, _⟩ => evalL tm args.toList fun vs => (match vs with | .int kk x :: r => minInt kk false x r k | _ => False)
  | .call ⟨.builtin .max, args, _⟩ => evalL tm args.toList fun vs => (match vs with | .int kk x :: r => minInt kk true x r k | _ => False)
  | _ => False
def readW (T : TEnv) (op : Op) (tm : List AVal) (H : Heap) (k : AVal → Prop) : Prop :=
  match op with
  | .load t a => (match evalO tm a, T[t]? with
    | .ptr ⟨b, i, j⟩, some ti => (match H[b]? with
      | some (.cells cs) => partW ti cs (i + j) k
      | some (.ints kk l) => whenB (!ti.isAgg) (need (i + j < l.length) (k (.int kk (l.getD (i + j) 0))))
      | some (.rows _ n f) => need (i < n) (partW ti (f i) j k)
      | _ => False)
    | .roptr _ _ row i j, some ti => partW ti (row i) j k
    | _, _ => False)
  | .indexAddr t x i => (match T[t]?, evalO tm x, evalO tm i with
    | some ⟨_, _, .slice e, _, _⟩, .slice ⟨b, i0, j0⟩ n, .int _ i => (match sizeT T e, H[b]? with
      | some es, some (.cells _) => need (0 ≤ i ∧ i < n) (k (.ptr ⟨b, i0, j0 + i.toNat * es⟩))
      | some es, some (.ints _ _) => whenB (Nat.beq es 1) (need (0 ≤ i ∧ i < n) (k (.ptr ⟨b, i0 + i.toNat, j0⟩)))
      | some es, some (.rows sz _ _) => whenB (Nat.beq es sz) (need (0 ≤ i ∧ i < n) (k (.ptr ⟨b, i0 + i.toNat, j0⟩)))
      | _, _ => False)
    | _, _, _ => pureW T op tm k)
  | .slice t x lo hi none => (match T[t]?, evalO tm x with
    | some ⟨_, _, .slice e, _, _⟩, .slice ⟨b, i0, j0⟩ n => (match sizeT T e, H[b]? with
      | some es, some (.cells _) => boundsW n (lo.map (evalO tm)) (hi.map (evalO tm)) fun l h => k (.slice ⟨b, i0, j0 + l * es⟩ (h - l))
      | some es, some (.ints _ _) => whenB (Nat.beq es 1) (boundsW n (lo.map (evalO tm)) (hi.map (evalO tm)) fun l h => k (.slice ⟨b, i0 + l, j0⟩ (h - l)))
      | some es, some (.rows sz _ _) => whenB (Nat.beq es sz) (boundsW n (lo.map (evalO tm)) (hi.map (evalO tm)) fun l h => k (.slice ⟨b, i0 + l, j0⟩ (h - l)))
      | _, _ => False)
    | some ⟨_, _, .arr n e, _, _⟩, .ptr ⟨b, i0, j0⟩ => (match sizeT T e, H[b]? with
      | some es, some (.cells _) => boundsW n (lo.map (evalO tm)) (hi.map (evalO tm)) fun l h => k (.slice ⟨b, i0, j0 + l * es⟩ (h - l))
      | _, _ => False)
    | _, _ => pureW T op tm k)
  | .sliceToArrayPointer t x => (match T[t]?, evalO tm x with
    | some ⟨_, _, .arr m _, _, _⟩, .slice ⟨b, i0, j0⟩ n => (match H[b]? with
      | some (.cells _) => need (0 < m ∧ m ≤ n) (k (.ptr ⟨b, i0, j0⟩))
      | _ => False)
    | _, _ => False)
  | _ => pureW T op tm k
abbrev CallH := FuncId → List AVal → List AVal → Heap → (List AVal → AVal → Heap → Prop) → Prop
def AVal.names (b : Nat) : Nat → AVal → Bool
  | 0, _ => true
  | d + 1, v => match v with
    | .ptr a => Nat.beq a.blk b
    | .slice a _ => Nat.beq a.blk b
    | .agg cs => cs.any (AVal.names b d)
    | .tuple cs => cs.any (AVal.names b d)
    | .fn _ x y => x.any (AVal.names b d) || y.any (AVal.names b d)
    | _ => false
def scrubV (b : Nat) (v : AVal) : AVal := match v.names b 4 with | true => .any | false => v
def scrubW (b : Nat) : List AVal → (List AVal → Prop) → Prop
  | [], k => k []
  | v :: r, k => force (scrubV b v) fun v' => scrubW b r fun r' => k (v' :: r')
def scrubB (b : Nat) : Blk → (Blk → Prop) → Prop
  | .cells cs, k => scrubW b cs fun cs' => k (.cells cs')
  | x, k => k x
def scrubH (b : Nat) : Heap → (Heap → Prop) → Prop
  | [], k => k []
  | x :: r, k => scrubB b x fun x' => scrubH b r fun r' => k (x' :: r')
def newW (H : Heap) (b : Blk) (k : Nat → Heap → Prop) : Prop := lenL H fun n => snocL H b fun H' => k n H'
def intsW (kk : IntKind) : List AVal → (List Int → Prop) → Prop
  | [], k => k []
  | .int k' n :: r, k => (match sameKind kk k' with | true => intsW kk r fun l => k (n :: l) | false => False)
  | _, _ => False
def irow (kk : IntKind) (l : List Int) : Nat → List AVal := fun i => [.int kk (l.getD i 0)]
def chunk (es : Nat) (cs : List AVal) : Nat → List AVal := fun i => (cs.drop (i * es)).take es
def newSliceW (te : TI) (n : Nat) (cs : List AVal) (tm : List AVal) (H : Heap) (k : List AVal → AVal → Heap → Prop) : Prop :=
  match te.desc with
  | .int kk => whenB (Nat.beq te.size 1) (intsW kk cs fun l => choice (k tm (.ro 1 n (irow kk l)) H) (newW H (.ints kk l) fun b H' => k tm (.slice ⟨b, 0, 0⟩ n) H'))
  | _ => match allClosed cs with
    | true => choice (k tm (.ro te.size n (chunk te.size cs)) H) (newW H (.rows te.size n (chunk te.size cs)) fun b H' => k tm (.slice ⟨b, 0, 0⟩ n) H')
    | false => newW H (.cells cs) fun b H' => k tm (.slice ⟨b, 0, 0⟩ n) H'
def srcW (es : Nat) (H : Heap) (x : AVal) (k : Nat → (Nat → List AVal) → Prop) : Prop :=
  match x with
  | .ro sz m row => whenB (Nat.beq sz es) (k m row)
  | .nilslice => k 0 fun _ => []
  | .slice ⟨b, i0, 0⟩ m => (match H[b]? with
    | some (.ints kk l) => whenB (Nat.beq es 1) (need (i0 + m ≤ l.length) (k m fun i => [.int kk (l.getD (i0 + i) 0)]))
    | some (.rows sz n f) => whenB (Nat.beq sz es) (need (i0 + m ≤ n) (k m fun i => f (i0 + i)))
    | _ => False)
  | .str s => whenB (Nat.beq es 1) (k s.size fun i => [.int .u8 ((s.data.toList.getD i 0).toNat)])
  | _ => False
def rowInt (kk : IntKind) : List AVal → Int
  | [.int k' n] => match sameKind kk k' with | true => n | false => 0
  | _ => 0
def rowsInts (kk : IntKind) (m : Nat) (row : Nat → List AVal) : List Int := (List.range m).map fun i => rowInt kk (row i)
def isRow (kk : IntKind) (m : Nat) (row : Nat → List AVal) : Prop := ∀ i, i < m → ∃ n, row i = [.int kk n]
def catRows (n : Nat) (f g : Nat → List AVal) : Nat → List AVal := fun i => if i < n then f i else g (i - n)
def roomFor (n bytes : Nat) : Prop := n * bytes ≤ 2 ^ 47
def isSrcD : TD → Bool
  | .slice _ | .str => true
  | _ => false
def appendW (te : TI) (n0 : Nat) (s x : AVal) (tm : List AVal) (H : Heap) (k : List AVal → AVal → Heap → Prop) : Prop :=
  srcW te.size H x fun m row =>
    match s with
    | .nilslice => need (roomFor m te.bytes) (match te.desc with
      | .int kk => whenB (Nat.beq te.size 1) (need (isRow kk m row) (choice (k tm (.ro te.size m row) H) (newW H (.ints kk (rowsInts kk m row)) fun b H' => k tm (.slice ⟨b, 0, 0⟩ m) H')))
      | _ => choice (k tm (.ro te.size m row) H) (newW H (.rows te.size m row) fun b H' => k tm (.slice ⟨b, 0, 0⟩ m) H'))
    | .slice ⟨b, i0, 0⟩ n => whenB (Nat.ble n0 b) (need (roomFor (n + m) te.bytes) (match H[b]? with
      | some (.ints kk l) => (match te.desc with
        | .int kk' => whenB (Nat.beq te.size 1) (whenB (sameKind kk' kk) (need (i0 + n = l.length ∧ isRow kk m row) (scrubW b tm fun tm' => scrubH b H fun H' => setL H' b (.ints kk (l.drop i0 ++ rowsInts kk m row)) fun H'' => k tm' (.slice ⟨b, 0, 0⟩ (n + m)) H'')))
        | _ => False)
      | some (.rows sz n' f) => whenB (Nat.beq sz te.size) (need (i0 + n = n') (scrubW b tm fun tm' => scrubH b H fun H' => setL H' b (.rows sz (n + m) (catRows n (fun i => f (i0 + i)) row)) fun H'' => k tm' (.slice ⟨b, 0, 0⟩ (n + m)) H''))
      | _ => False))
    | _ => False
def bytesI (l : List Int) : ByteArray := ⟨(l.map fun n => UInt8.ofNat n.toNat).toArray⟩
def noStr (x : AVal) (K : Prop) : Prop := match x with | .str _ => False | _ => K
def convW (T : TEnv) (src dst : Nat) (H : Heap) (x : AVal) (k : AVal → Prop) (other : Prop) : Prop :=
  match T[src]?, T[dst]? with
  | some ⟨_, _, .slice e, _, _⟩, some ⟨_, _, .str, _, _⟩ => (match T[e]? with
    | some ⟨_, _, .int .u8, _, _⟩ => noStr x (srcW 1 H x fun m row => need (isRow .u8 m row) (k (.str (bytesI (rowsInts .u8 m row)))))
    | _ => False)
  | _, _ => other
def markW (T : TEnv) (src dst : Nat) (H : Heap) (x : AVal) (k : AVal → Prop) (other : Prop) : Prop :=
  match Nat.beq src dst with
  | true => (match T[src]?, x with
    | some ⟨_, _, .slice e, _, _⟩, .slice ⟨b, i0, j0⟩ n => (match T[e]?, H[b]? with
      | some ⟨_, _, .int .u8, _, _⟩, some (.ints _ _) => need (0 < n) (k (.slice ⟨b, i0, j0⟩ n))
      | _, _ => False)
    | _, _ => other)
  | false => other
def timesL : Nat → List AVal → (List AVal → Prop) → Prop
  | 0, _, k => k []
  | n + 1, z, k => timesL n z fun r => appL z r k
def storeW (H : Heap) (a v : AVal) (k : Heap → Prop) : Prop :=
  match a with
  | .ptr ⟨b, i, j⟩ => (match H[b]? with
    | some (.cells cs) => spliceL (i + j) v.cells cs fun cs' => setL H b (.cells cs') k
    | some (.ints kk l) => (match v with
      | .int k' n => whenB (sameKind kk k') (need (i + j < l.length) (setL H b (.ints kk (l.set (i + j) n)) k))
      | _ => False)
    | some (.rows sz n f) => whenB (allClosed v.cells) (lenL v.cells fun m => need (i < n ∧ j + m ≤ sz) (setL H b (.rows sz n (fun q => if q = i then (f i).take j ++ v.cells ++ (f i).drop (j + m) else f q)) k))
    | _ => False)
  | _ => False
def allocW (t : Nat) (z : List AVal) (k : Blk → Prop) : Prop := match seatSB with
  | none => k (.cells z)
  | some (s, _) => (match Nat.beq t s with
    | true => (match z with
      | [.nilptr, .nilslice] => k (.sb [])
      | _ => k (.cells z))
    | false => k (.cells z))
def opW (C : CallH) (T : TEnv) (n0 : Nat) (o : Op) (tm : List AVal) (H : Heap) (k : List AVal → AVal → Heap → Prop) : Prop :=
  match o with
  | .alloc t => (match T[t]? with
    | some ⟨_, _, _, some z, _⟩ => allocW t z fun blk => newW H blk fun b H' => k tm (.ptr ⟨b, 0, 0⟩) H'
    | _ => False)
  | .box _ x => force (evalO tm x) fun v => whenB (allOne v.cells) (newW H (.cells v.cells) fun b H' => k tm (.ptr ⟨b, 0, 0⟩) H')
  | .buildSlice t len parts => (match T[t]? with
    | some ⟨_, _, .slice e, _, _⟩ => (match T[e]? with
      | some te => (match te.zero with
        | some z => whenB (Nat.blt 0 te.size) (whenB (Nat.ble (len * te.size) 16777216) (lenL z fun m => whenB (Nat.beq m te.size) (timesL len z fun z => fillW (fun i => some (i * te.size, te.size)) tm parts.toList z fun cs => newSliceW te len cs tm H k)))
        | none => False)
      | none => False)
    | _ => False)
  | .makeSlice t len cap => (match T[t]?, evalO tm len, evalO tm cap with
    | some ⟨_, _, .slice e, _, _⟩, .int _ l, .int _ c => (match T[e]? with
      | some ⟨es, bytes, desc, some z, _⟩ => need (0 ≤ l ∧ l ≤ c ∧ c * bytes ≤ 2 ^ 47 ∧ c ≤ 2 ^ 47) (match desc, z with
        | .int kk, [.int k' n] => whenB (Nat.beq es 1) (whenB (sameKind kk k') (choice (k tm (.ro 1 l.toNat (fun _ => [.int kk n])) H) (newW H (.ints kk (List.replicate l.toNat n)) fun b H' => k tm (.slice ⟨b, 0, 0⟩ l.toNat) H')))
        | .int _, _ => False
        | _, _ => whenB (Nat.blt 0 es) (lenL z fun m => whenB (Nat.beq m es) (whenB (allClosed z) (choice (k tm (.ro es l.toNat (fun _ => z)) H) (newW H (.rows es l.toNat (fun _ => z)) fun b H' => k tm (.slice ⟨b, 0, 0⟩ l.toNat) H')))))
      | _ => False)
    | _, _, _ => False)
  | .store t a x => (match sizeT T t with
    | some n => whenB (Nat.blt 0 n) (force (evalO tm x) fun v => whenB (allOne v.cells) (lenL v.cells fun m => whenB (Nat.beq m n) (storeW H (evalO tm a) v fun H' => k tm (.tuple []) H')))
    | none => False)
  | .range t x => (match T[t]?, evalO tm x with
    | some ⟨_, _, .str, _, _⟩, .str s => newW H (.iter s 0) fun b H' => k tm (.ptr ⟨b, 0, 0⟩) H'
    | _, _ => False)
  | .next it true => (match evalO tm it with
    | .ptr ⟨b, 0, 0⟩ => (match H[b]? with
      | some (.iter s pos) => branch (decide (pos < s.size))
          (setL H b (.iter s (pos + (Utf8.decode s pos).2)) fun H' => k tm (.tuple [.bool true, .int .i64 pos, .int .i32 (Utf8.decode s pos).1]) H')
          (k tm (.tuple [.bool false]) H)
      | _ => False)
    | _ => False)
  | .call ⟨.builtin .append, args, ts⟩ => (match args.toList, ts.toList with
    | [s, x], [t, t2] => (match T[t]?, T[t2]? with
      | some ⟨_, _, .slice e, _, _⟩, some ti2 => (match T[e]? with
        | some te => (match te.zero with
          | some z => whenB (isSrcD ti2.desc) (whenB (Nat.blt 0 te.size) (whenB (Nat.blt 0 te.bytes && Nat.ble te.bytes 1048576) (lenL z fun m => whenB (Nat.beq m te.size) (force (evalO tm s) fun s => force (evalO tm x) fun x => appendW te n0 s x tm H k))))
          | none => False)
        | none => False)
      | _, _ => False)
    | _, _ => False)
  | .call ⟨.value f, args, _⟩ => (match evalO tm f with
    | .fn (.func fid) first cap => evalL tm args.toList fun vs => appL first vs fun l => appL l cap fun l => C fid l tm H k
    | _ => False)
  | .call ⟨.builtin .copy, args, ts⟩ => (match args.toList, ts.toList with
    | [d, s], t :: _ => (match T[t]?, evalO tm d, evalO tm s with
      | some ⟨_, _, .slice e, _, _⟩, .slice ⟨b, i0, j0⟩ n, .slice ⟨b', i1, j1⟩ m => (match sizeT T e, H[b]?, H[b']? with
        | some es, some (.cells cs), some (.cells cs') => need (0 < Nat.min m n * es) (dropTakeL (i1 + j1) (Nat.min m n * es) cs' fun vs => whenB (allOne vs) (spliceL (i0 + j0) vs cs fun cs2 => setL H b (.cells cs2) fun H' => k tm (.int .i64 (Nat.min m n : Nat)) H'))
        | _, _, _ => False)
      | _, _, _ => False)
    | _, _ => False)
  | .convert src dst x => convW T src dst H (evalO tm x) (fun v => k tm v H) (markW T src dst H (evalO tm x) (fun v => k tm v H) (readW T (.convert src dst x) tm H fun v => k tm v H))
  | _ => readW T o tm H fun v => k tm v H
def putW (tm : List AVal) (d : Option Nat) (v : AVal) (k : List AVal → Prop) : Prop := match d with
  | some d => setL tm d v k
  | none => k tm
def dstOf (ops : List Oper) (j : Nat) : Option Nat := match ops[j]? with | none => none | some o => o.dst
def opsW (C : CallH) (T : TEnv) (n0 : Nat) (all : List Oper) : List Oper → List AVal → Heap → (List AVal → Heap → Prop) → Prop
  | [], tm, H, Q => Q tm H
  | o :: rest, tm, H, Q =>
    match o.guard with
    | none => opW C T n0 o.op tm H fun tm v H => putW tm o.dst v fun tm => opsW C T n0 all rest tm H Q
    | some (j, want) =>
      match dstOf all j with
      | none => False
      | some d => (match tm.getD d .any with
        | .bool b => branch b
            (setL tm d (.bool true) fun tm => match want with
              | true => opW C T n0 o.op tm H fun tm v H => putW tm o.dst v fun tm => opsW C T n0 all rest tm H Q
              | false => putW tm o.dst (.tuple []) fun tm => opsW C T n0 all rest tm H Q)
            (setL tm d (.bool false) fun tm => match want with
              | false => opW C T n0 o.op tm H fun tm v H => putW tm o.dst v fun tm => opsW C T n0 all rest tm H Q
              | true => putW tm o.dst (.tuple []) fun tm => opsW C T n0 all rest tm H Q)
        | .tuple [] => putW tm o.dst (.tuple []) fun tm => opsW C T n0 all rest tm H Q
        | _ => False)
def seqQ (y : AQ → List AVal → Heap → Prop) (Q : AQ) : AQ
  | .normal, tm, H => y Q tm H
  | .exit i, tm, H => Q (.exit i) tm H
  | .ret, tm, H => Q .ret tm H
def blockQ (id : Nat) (Q : AQ) : AQ
  | .normal, tm, H => Q .normal tm H
  | .exit i, tm, H => (match Nat.beq i id with | true => Q .normal tm H | false => Q (.exit i) tm H)
  | .ret, tm, H => Q .ret tm H
structure Par where
  T : TEnv
  n0 : Nat
  C : CallH
  L : (AQ → List AVal → Heap → Prop) → AQ → List AVal → Heap → Prop
  D : List Oper → List AVal → Heap → (List AVal → Heap → Prop) → Prop
def condW (p : Par) (c : Operand) (tm : List AVal) (k : Bool → List AVal → Prop) : Prop :=
  match c with
  | .tmp t => (match tm.getD t .any with
    | .bool b => branch b (setL tm t (.bool true) (k true)) (setL tm t (.bool false) (k false))
    | _ => False)
  | .const (.bool b) => k b tm
  | _ => False
def codeW (p : Par) : Code → AQ → List AVal → Heap → Prop
  | .skip, Q, tm, H => Q .normal tm H
  | .label _, Q, tm, H => Q .normal tm H
  | .scope c, Q, tm, H => codeW p c Q tm H
  | .region _ ops false, Q, tm, H => opsW p.C p.T p.n0 ops.toList ops.toList tm H (Q .normal)
  | .region _ ops true, Q, tm, H => p.D ops.toList tm H (Q .normal)
  | .seq a b, Q, tm, H => codeW p a (seqQ (codeW p b) Q) tm H
  | .cond c a b, Q, tm, H => condW p c tm fun t tm => match t with | true => codeW p a Q tm H | false => codeW p b Q tm H
  | .block id c, Q, tm, H => codeW p c (blockQ id Q) tm H
  | .loop c, Q, tm, H => p.L (codeW p c) Q tm H
  | .exit id, Q, tm, H => Q (.exit id) tm H
  | .ret, Q, tm, H => Q .ret tm H
  | _, _, _, _ => False
def resL (T : TEnv) (tm : List AVal) (H : Heap) : List ResultVar → (List AVal → Prop) → Prop
  | [], k => k []
  | .tmp t :: r, k => force (tm.getD t .any) fun v => resL T tm H r fun vs => k (v :: vs)
  | .cell a t :: r, k => readW T (.load t (.tmp a)) tm H fun v => resL T tm H r fun vs => k (v :: vs)
def resW (T : TEnv) (rs : List ResultVar) (tm : List AVal) (H : Heap) (k : AVal → Heap → Prop) : Prop :=
  resL T tm H rs fun vs => match vs with | [v] => k v H | vs => k (.tuple vs) H
def retQ (T : TEnv) (rs : List ResultVar) (k : AVal → Heap → Prop) : AQ
  | .normal, tm, H => resW T rs tm H k
  | .ret, tm, H => resW T rs tm H k
  | .exit _, _, _ => False
def funW (p : Par) (f : Func) (args : List AVal) (H : Heap) (k : AVal → Heap → Prop) : Prop :=
  match f.body with
  | some c => lenL args fun n => repL (f.ntmps - n) (AVal.tuple []) fun r => appL args r fun tm => codeW p c (retQ p.T f.results.toList k) tm H
  | none => False
end Go.E
namespace Go.E
structure RoAt (w : World) (X : Nat → Prop) (sz n : Nat) (row : Nat → List AVal) (R : AVal → Value → Prop) (r o : Nat) : Prop where
  out : ¬ X r
  ex : ∃ cs t fr, w.heap[r]? = some (.cells cs t fr) ∧ ∀ i, i < n → (row i).length = sz ∧ ∀ j v, (row i)[j]? = some v → ∃ u, cs[o + i * sz + j]? = some u ∧ R v u
inductive RRel (w : World) (X : Nat → Prop) : AVal → Value → Prop where
  | int (k : IntKind) (n : Int) : RRel w X (.int k n) (.int k n)
  | bool (b : Bool) : RRel w X (.bool b) (.bool b)
  | str (s : ByteArray) : RRel w X (.str s) (.string s)
  | nilptr : RRel w X .nilptr (.pointer none)
  | nilslice : RRel w X .nilslice (.slice none 0 0)
  | nilfn : RRel w X .nilfn .nilFunc
  | roNil {sz : Nat} {row : Nat → List AVal} (A : Option Addr) (c : Nat) : RRel w X (.ro sz 0 row) (.slice A 0 c)
  | ro {sz n : Nat} {row : Nat → List AVal} {r o c : Nat} {cs : Array Value} {t : TypeId} {fr : Nat × Nat} (hc : n ≤ c) (hx : ¬ X r) (hb : w.heap[r]? = some (.cells cs t fr))
      (hlen : ∀ i, i < n → (row i).length = sz) (hin : ∀ i, i < n → o + i * sz + sz ≤ cs.size)
      (hrel : ∀ i, i < n → ∀ j v u, (row i)[j]? = some v → cs[o + i * sz + j]? = some u → RRel w X v u) : RRel w X (.ro sz n row) (.slice (some ⟨r, o, none⟩) n c)
structure Cx where
  φ : Nat → Option (Nat × Nat)
  X : Nat → Prop
  H : Heap
  w : World
def Blk.live : Blk → Bool
  | .dead => false
  | _ => true
def lin : Blk → AAddr → Nat
  | .rows sz _ _, a => a.idx * sz + a.off
  | _, a => a.idx + a.off
def stride : Blk → Nat
  | .rows sz _ _ => sz
  | _ => 1
def Blk.grows : Blk → Bool
  | .ints _ _ | .rows _ _ _ => true
  | _ => false
inductive BK where
  | dead | cells | ints (k : IntKind) | rows (sz : Nat) | iter | sb
def Blk.kind : Blk → BK
  | .dead => .dead
  | .cells _ => .cells
  | .ints k _ => .ints k
  | .rows sz _ _ => .rows sz
  | .iter _ _ => .iter
  | .sb _ => .sb
theorem lin_kind {b b' : Blk} (h : b.kind = b'.kind) (a : AAddr) : lin b a = lin b' a := by
  cases b <;> cases b' <;> simp_all [Blk.kind, lin]
theorem stride_kind {b b' : Blk} (h : b.kind = b'.kind) : stride b = stride b' := by
  cases b <;> cases b' <;> simp_all [Blk.kind, stride]
theorem grows_kind {b b' : Blk} (h : b.kind = b'.kind) : b.grows = b'.grows := by
  cases b <;> cases b' <;> simp_all [Blk.kind, Blk.grows]
theorem live_kind {b b' : Blk} (h : b.kind = b'.kind) : b.live = b'.live := by
  cases b <;> cases b' <;> simp_all [Blk.kind, Blk.live]
def Room (w : World) (r : Nat) (upto : Nat) : Prop := ∃ cs t fr, w.heap[r]? = some (.cells cs t fr) ∧ upto ≤ cs.size
inductive VRel (c : Cx) : AVal → Value → Prop where
  | closed {v : AVal} {u : Value} (h : RRel c.w c.X v u) : VRel c v u
  | any (u : Value) : VRel c .any u
  | ptr {a : AAddr} {p : Addr} {blk : Blk} (hb : c.H[a.blk]? = some blk)
      (h : blk.live = true → ∃ r o, c.φ a.blk = some (r, o) ∧ p = ⟨r, o + lin blk a, none⟩) : VRel c (.ptr a) (.pointer (some p))
  | slice {a : AAddr} {n k : Nat} {A : Option Addr} {blk : Blk} (hb : c.H[a.blk]? = some blk) (hk : n ≤ k)
      (h : blk.live = true → (n = 0 ∧ k = 0) ∨ ∃ r o, c.φ a.blk = some (r, o) ∧ A = some ⟨r, o + lin blk a, none⟩ ∧ (blk.grows = true → Room c.w r (o + lin blk a + k * stride blk))) : VRel c (.slice a n) (.slice A n k)
  | roptr {sz n : Nat} {row : Nat → List AVal} {i j r o : Nat} {cs : Array Value} {t : TypeId} {fr : Nat × Nat} (hi : i < n) (hx : ¬ c.X r) (hb : c.w.heap[r]? = some (.cells cs t fr))
      (hlen : ∀ i, i < n → (row i).length = sz) (hin : ∀ i, i < n → o + i * sz + sz ≤ cs.size)
      (hrel : ∀ i, i < n → ∀ j v u, (row i)[j]? = some v → cs[o + i * sz + j]? = some u → RRel c.w c.X v u) : VRel c (.roptr sz n row i j) (.pointer (some ⟨r, o + i * sz + j, none⟩))
  | agg {cs : List AVal} {us : Array Value} (hl : cs.length = us.size) (h : ∀ (i : Nat) (v : AVal) (u : Value), cs[i]? = some v → us[i]? = some u → VRel c v u) : VRel c (.agg cs) (.agg us)
  | tuple {cs : List AVal} {us : Array Value} (hl : cs.length = us.size) (h : ∀ (i : Nat) (v : AVal) (u : Value), cs[i]? = some v → us[i]? = some u → VRel c v u) : VRel c (.tuple cs) (.tuple us)
  | fn {f : Fn} {as bs : List AVal} {us vs : Array Value} (hl : as.length = us.size) (h : ∀ (i : Nat) (v : AVal) (u : Value), as[i]? = some v → us[i]? = some u → VRel c v u)
      (hl' : bs.length = vs.size) (h' : ∀ (i : Nat) (v : AVal) (u : Value), bs[i]? = some v → vs[i]? = some u → VRel c v u) : VRel c (.fn f as bs) (.func f us vs)
def Unf (fr : Nat × Nat) (n : Nat) : Prop := (∀ j, j < n → ¬ (fr.1 ≤ j ∧ j < fr.2)) ∧ fr.1 ≤ fr.2
theorem unf0 (n : Nat) : Unf (0, 0) n := ⟨fun j _ => by simp, Nat.le_refl _⟩
def SbBuf (w : World) (r g : Nat) : Prop := ∃ p v t fr, w.heap[r]? = some (.cells #[p, v] t fr) ∧ v.ownBlock = some g
theorem SbBuf.same {w w' : World} {r g : Nat} (he : w'.heap[r]? = w.heap[r]?) (h : SbBuf w' r g) : SbBuf w r g := by
  obtain ⟨p, v, t, fr, h1, h2⟩ := h
  exact ⟨p, v, t, fr, he.symm.trans h1, h2⟩
theorem sb_buf {T e : TypeId} {B b g : Nat} {bs : List Value} {w : World} (h : Lib.IsBuilderF T e B b bs w) (hg : SbBuf w b g) : B ≤ g ∧ g ≠ b ∧ ∃ ob, w.heap[g]? = some ob := by
  obtain ⟨p, v, t, fr, h1, h2⟩ := hg
  have key : ∀ {q : Value}, Lib.BuilderAtF T e B b q bs w → B ≤ g ∧ g ≠ b ∧ ∃ ob, w.heap[g]? = some ob := by
    rintro q ⟨_, v', h3, h4, h5⟩
    rw [h1] at h3
    simp only [Option.some.injEq, Obj.cells.injEq] at h3
    have hv : v = v' := by
      have := congrArg (fun A : Array Value => A[1]?) h3.1
      simpa using this
    subst hv
    refine ⟨?_, fun e => h5 (by rw [h2, e]), ?_⟩
    · rcases h4.2 with ⟨h6, _⟩ | ⟨g', cap, cur, fz, h6, h7, h8, _⟩
      · rw [h6] at h2; cases h2
      · rw [h6] at h2; cases h2; exact h7
    · rcases h4.2 with ⟨h6, _⟩ | ⟨g', cap, cur, fz, h6, h7, h8, _⟩
      · rw [h6] at h2; cases h2
      · rw [h6] at h2; cases h2; exact ⟨_, h8⟩
  exact h.elim key key
theorem sb_same {T e : TypeId} {B b : Nat} {bs : List Value} {w w' : World} (h : Lib.IsBuilderF T e B b bs w) (he : w'.heap[b]? = w.heap[b]?) (hg : ∀ g, SbBuf w b g → w'.heap[g]? = w.heap[g]?) : Lib.IsBuilderF T e B b bs w' := by
  have key : ∀ {q : Value}, Lib.BuilderAtF T e B b q bs w → Lib.BuilderAtF T e B b q bs w' := by
    rintro q ⟨h1, v, h3, h4, h5⟩
    refine ⟨h1, v, he.trans h3, ⟨h4.1, ?_⟩, h5⟩
    rcases h4.2 with h6 | ⟨g, cap, cur, fz, h6, h7, h8, h9⟩
    · exact .inl h6
    · exact .inr ⟨g, cap, cur, fz, h6, h7, (hg g ⟨_, _, _, _, h3, by rw [h6]; rfl⟩).trans h8, h9⟩
  exact h.imp key key
def Holds (c : Cx) (r o : Nat) : Blk → Prop
  | .dead => True
  | .cells l => ∃ cs t fr, c.w.heap[r]? = some (.cells cs t fr) ∧ Unf fr cs.size ∧ o + l.length ≤ cs.size ∧ ∀ (j : Nat) (v : AVal) (u : Value), l[j]? = some v → cs[o + j]? = some u → VRel c v u
  | .ints k l => ∃ cs t fr, c.w.heap[r]? = some (.cells cs t fr) ∧ Unf fr cs.size ∧ o + l.length ≤ cs.size ∧ ∀ (j : Nat) (x : Int), l[j]? = some x → cs[o + j]? = some (.int k x)
  | .rows sz n f => ∃ cs t fr, c.w.heap[r]? = some (.cells cs t fr) ∧ Unf fr cs.size ∧ o + n * sz ≤ cs.size ∧ ∀ i, i < n → (f i).length = sz ∧ ∀ j v u, (f i)[j]? = some v → cs[o + i * sz + j]? = some u → RRel c.w c.X v u
  | .iter s pos => o = 0 ∧ c.w.heap[r]? = some (.stringIter s pos)
  | .sb l => o = 0 ∧ ∃ T e, seatSB = some (T, e) ∧ Lib.IsBuilderF T e r r (Lib.byteCells l) c.w ∧ ∀ g, SbBuf c.w r g → ¬ c.X g
def Blk.void : Blk → Prop
  | .ints _ l => l = []
  | .rows _ n _ => n = 0
  | _ => False
structure HRel (c : Cx) : Prop where
  holds : ∀ b blk, c.H[b]? = some blk → blk.live = true → (blk.void ∧ c.φ b = none) ∨ ∃ r o, c.φ b = some (r, o) ∧ c.X r ∧ Holds c r o blk
  small : ∀ r, c.X r → r < c.w.heap.size
  inj : ∀ b b' blk blk' r o o', c.H[b]? = some blk → blk.live = true → c.H[b']? = some blk' → blk'.live = true → c.φ b = some (r, o) → c.φ b' = some (r, o') → b = b'
def Img (c : Cx) (r : Nat) : Prop := ∃ b blk o, c.H[b]? = some blk ∧ blk.live = true ∧ c.φ b = some (r, o)
structure Fr (c c' : Cx) : Prop where
  os : c'.w.os = c.w.os
  tape : c'.w.tape = c.w.tape
  output : c'.w.output = c.w.output
  size : c.w.heap.size ≤ c'.w.heap.size
  keep : ∀ r, r < c.w.heap.size → ¬ Img c r → c'.w.heap[r]? = c.w.heap[r]?
  shape : ∀ r, r < c.w.heap.size → c'.w.shape? r = c.w.shape? r
  X : ∀ r, r < c.w.heap.size → (c'.X r ↔ c.X r)
  blocks : ∀ b blk, c.H[b]? = some blk → ∃ blk', c'.H[b]? = some blk' ∧ blk'.kind = blk.kind ∧ c'.φ b = c.φ b
  img : ∀ b blk r o, c.H.length ≤ b → c'.H[b]? = some blk → blk.live = true → c'.φ b = some (r, o) → c.w.heap.size ≤ r
theorem Fr.refl (c : Cx) : Fr c c where
  os := rfl
  tape := rfl
  output := rfl
  size := Nat.le_refl _
  keep := fun _ _ _ => rfl
  shape := fun _ _ => rfl
  X := fun _ _ => Iff.rfl
  blocks := fun _ blk h => ⟨blk, h, rfl, rfl⟩
  img := fun b blk _ _ hb h _ _ => by
    have := (List.getElem?_eq_some_iff.1 h).1
    omega
theorem Fr.len {c c' : Cx} (h : Fr c c') : c.H.length ≤ c'.H.length := by
  rcases Nat.lt_or_ge c'.H.length c.H.length with hlt | hge
  · obtain ⟨blk', hb, _⟩ := h.blocks c'.H.length _ (List.getElem?_eq_getElem hlt)
    have := (List.getElem?_eq_some_iff.1 hb).1
    omega
  · exact hge
theorem Fr.trans {a b c : Cx} (h : Fr a b) (k : Fr b c) : Fr a c where
  os := k.os.trans h.os
  tape := k.tape.trans h.tape
  output := k.output.trans h.output
  size := Nat.le_trans h.size k.size
  keep := fun r hr hn => by
    rw [k.keep r (Nat.lt_of_lt_of_le hr h.size) ?_, h.keep r hr hn]
    rintro ⟨i, blk, o, hi, hl, hf⟩
    by_cases hlt : i < a.H.length
    · obtain ⟨blk', hb', hk, hφ⟩ := h.blocks i _ (List.getElem?_eq_getElem hlt)
      rw [hi] at hb'
      cases hb'
      exact hn ⟨i, _, o, List.getElem?_eq_getElem hlt, by rw [← live_kind hk]; exact hl, by rw [← hφ]; exact hf⟩
    · have := h.img i blk r o (by omega) hi hl hf
      omega
  shape := fun r hr => (k.shape r (Nat.lt_of_lt_of_le hr h.size)).trans (h.shape r hr)
  X := fun r hr => (k.X r (Nat.lt_of_lt_of_le hr h.size)).trans (h.X r hr)
  blocks := fun i blk hi => by
    obtain ⟨b1, h1, k1, p1⟩ := h.blocks i blk hi
    obtain ⟨b2, h2, k2, p2⟩ := k.blocks i b1 h1
    exact ⟨b2, h2, k2.trans k1, p2.trans p1⟩
  img := fun i blk r o hi hb hl hf => by
    by_cases hlt : i < b.H.length
    · obtain ⟨blk', hb', hk, hφ⟩ := k.blocks i _ (List.getElem?_eq_getElem hlt)
      rw [hb] at hb'
      cases hb'
      exact h.img i _ r o hi (List.getElem?_eq_getElem hlt) (by rw [← live_kind hk]; exact hl) (by rw [← hφ]; exact hf)
    · have := k.img i blk r o (by omega) hb hl hf
      have := h.size
      omega
def GOK (c : Cx) : Prop := ∀ t ∈ seatTabs, ¬ Img c t.1 ∧ ∃ ty fr, c.w.heap[t.1]? = some (.cells (t.2.2.map fun z => Value.int t.2.1 z).toArray ty fr)
theorem Fr.gok {c c' : Cx} (h : Fr c c') (hg : GOK c) : GOK c' := fun t ht => by
  obtain ⟨h1, ty, fr, h2⟩ := hg t ht
  have hlt : t.1 < c.w.heap.size := (Array.getElem?_eq_some_iff.1 h2).1
  refine ⟨?_, ty, fr, by rw [h.keep _ hlt h1]; exact h2⟩
  rintro ⟨i, blk, o, hi, hl, hf⟩
  by_cases hi' : i < c.H.length
  · obtain ⟨blk', hb', hk, hφ⟩ := h.blocks i _ (List.getElem?_eq_getElem hi')
    rw [hi] at hb'
    cases hb'
    exact h1 ⟨i, _, o, List.getElem?_eq_getElem hi', by rw [← live_kind hk]; exact hl, by rw [← hφ]; exact hf⟩
  · have := h.img i blk _ o (by omega) hi hl hf
    omega
theorem GOK.sub {c d : Cx} (hg : GOK c) (hw : d.w = c.w) (hi : ∀ r, Img d r → Img c r) : GOK d := fun t ht => by
  obtain ⟨h1, ty, fr, h2⟩ := hg t ht
  exact ⟨fun h => h1 (hi _ h), ty, fr, by rw [hw]; exact h2⟩
theorem lt_of_heap {w : World} {r : Nat} {o : Obj} (h : w.heap[r]? = some o) : r < w.heap.size := (Array.getElem?_eq_some_iff.1 h).1
def Quiet (c c' : Cx) : Prop := ∀ r o, c.w.heap[r]? = some o → ¬ c.X r → c'.w.heap[r]? = some o ∧ ¬ c'.X r
theorem holds_sb {c c' : Cx} (hq : Quiet c c') {r o : Nat} {l : List UInt8} (he : c'.w.heap[r]? = c.w.heap[r]?) (h : Holds c r o (.sb l)) : Holds c' r o (.sb l) := by
  obtain ⟨h0, T, e, hT, h1, h2⟩ := h
  have hg : ∀ g, SbBuf c.w r g → c'.w.heap[g]? = c.w.heap[g]? ∧ ¬ c'.X g := fun g hg => by
    obtain ⟨_, _, ob, hob⟩ := sb_buf h1 hg
    obtain ⟨q1, q2⟩ := hq g ob hob (h2 g hg)
    exact ⟨q1.trans hob.symm, q2⟩
  exact ⟨h0, T, e, hT, sb_same h1 he fun g h => (hg g h).1, fun g h => (hg g (h.same he)).2⟩
theorem Fr.quiet {c c' : Cx} (h : Fr c c') (hX : ∀ r, Img c r → c.X r) : Quiet c c' := fun r o hr hx => by
  have hlt := lt_of_heap hr
  exact ⟨by rw [h.keep r hlt (fun hi => hx (hX r hi))]; exact hr, fun hx' => hx ((h.X r hlt).1 hx')⟩
theorem HRel.img {c : Cx} (h : HRel c) : ∀ r, Img c r → c.X r := fun r ⟨b, blk, o, hb, hl, hf⟩ => by
  rcases h.holds b blk hb hl with ⟨_, h0⟩ | ⟨r', o', h1, h2, _⟩
  · rw [h0] at hf; cases hf
  · rw [hf] at h1; cases h1; exact h2
theorem RRel.mono {c c' : Cx} (hq : Quiet c c') {v : AVal} {u : Value} (h : RRel c.w c.X v u) : RRel c'.w c'.X v u := by
  induction h with
  | int k n => exact .int k n
  | bool b => exact .bool b
  | str s => exact .str s
  | nilptr => exact .nilptr
  | nilslice => exact .nilslice
  | nilfn => exact .nilfn
  | roNil A c => exact .roNil A c
  | ro hc hx hb hlen hin _ ih => exact .ro hc (hq _ _ hb hx).2 (hq _ _ hb hx).1 hlen hin ih
theorem Room.mono {c c' : Cx} (h : Fr c c') {r n : Nat} (hr : Room c.w r n) : Room c'.w r n := by
  obtain ⟨cs, t, fr, hb, hn⟩ := hr
  have hlt := lt_of_heap hb
  have hs := h.shape r hlt
  simp only [World.shape?, hb] at hs
  split at hs
  · rename_i cs' t' fr' hb'
    simp only [Option.some.injEq, Prod.mk.injEq] at hs
    exact ⟨cs', t', fr', hb', by omega⟩
  · cases hs
theorem VRel.mono {c c' : Cx} (h : Fr c c') (hX : ∀ r, Img c r → c.X r) {v : AVal} {u : Value} (hv : VRel c v u) : VRel c' v u := by
  have hq := h.quiet hX
  induction hv with
  | closed hr => exact .closed (hr.mono hq)
  | any u => exact .any u
  | ptr hb hp =>
    obtain ⟨blk', hb', hk, hφ⟩ := h.blocks _ _ hb
    refine .ptr hb' fun hl => ?_
    obtain ⟨r, o, h1, h2⟩ := hp (by rw [← live_kind hk]; exact hl)
    exact ⟨r, o, hφ.trans h1, by rw [h2, lin_kind hk]⟩
  | slice hb hn hp =>
    obtain ⟨blk', hb', hk, hφ⟩ := h.blocks _ _ hb
    refine .slice hb' hn fun hl => ?_
    rcases hp (by rw [← live_kind hk]; exact hl) with h0 | ⟨r, o, h1, h2, h3⟩
    · exact .inl h0
    · exact .inr ⟨r, o, hφ.trans h1, by rw [h2, lin_kind hk], fun hg => by rw [lin_kind hk, stride_kind hk]; exact (h3 (by rw [← grows_kind hk]; exact hg)).mono h⟩
  | roptr hi hx hb hlen hin hrel => exact .roptr hi (hq _ _ hb hx).2 (hq _ _ hb hx).1 hlen hin (fun i hi j v u h1 h2 => (hrel i hi j v u h1 h2).mono hq)
  | agg hl _ ih => exact .agg hl ih
  | tuple hl _ ih => exact .tuple hl ih
  | fn hl _ hl' _ ih ih' => exact .fn hl ih hl' ih'
def TRel (c : Cx) (tm : List AVal) (us : Array Value) : Prop := tm.length = us.size ∧ ∀ (i : Nat) (v : AVal) (u : Value), tm[i]? = some v → us[i]? = some u → VRel c v u
theorem TRel.mono {c c' : Cx} (h : Fr c c') (hX : ∀ r, Img c r → c.X r) {tm : List AVal} {us : Array Value} (ht : TRel c tm us) : TRel c' tm us :=
  ⟨ht.1, fun i v u h1 h2 => (ht.2 i v u h1 h2).mono h hX⟩
structure SR (c : Cx) (tm : List AVal) (a : Act) : Prop where
  tm : TRel c tm a.tmps
  heap : HRel c
  defers : a.defers = []
end Go.E
namespace Go.E
section
variable {α : Type}
theorem takeL_iff {n : Nat} {l : List α} {k : List α → Prop} : takeL n l k ↔ n ≤ l.length ∧ k (l.take n) := by
  induction n generalizing l k with
  | zero => simp [takeL]
  | succ n ih => cases l with
    | nil => simp [takeL]
    | cons a r => simp [takeL, ih]
theorem dropTakeL_iff {i n : Nat} {l : List α} {k : List α → Prop} : dropTakeL i n l k → i ≤ l.length ∧ i + n ≤ l.length ∧ k ((l.drop i).take n) := by
  induction i generalizing l with
  | zero => simp [dropTakeL, takeL_iff]
  | succ i ih => cases l with
    | nil => simp [dropTakeL]
    | cons a r =>
      intro h
      have := ih h
      simp only [List.length_cons, List.drop_succ_cons]
      exact ⟨by omega, by omega, this.2.2⟩
theorem setL_iff {l : List α} {i : Nat} {v : α} {k : List α → Prop} : setL l i v k ↔ k (l.set i v) := by
  induction l generalizing i k with
  | nil => simp [setL]
  | cons a r ih => cases i with
    | zero => simp [setL]
    | succ i => simp [setL, ih]
theorem snocL_iff {l : List α} {v : α} {k : List α → Prop} : snocL l v k ↔ k (l ++ [v]) := by
  induction l generalizing k with
  | nil => simp [snocL]
  | cons a r ih => simp [snocL, ih]
theorem overL_iff {new l : List α} {k : List α → Prop} : overL new l k ↔ new.length ≤ l.length ∧ k (new ++ l.drop new.length) := by
  induction new generalizing l k with
  | nil => simp [overL]
  | cons a r ih => cases l with
    | nil => simp [overL]
    | cons b l => simp [overL, ih]
theorem spliceL_iff {i : Nat} {new l : List α} {k : List α → Prop} : spliceL i new l k → i + new.length ≤ l.length ∧ k (l.take i ++ new ++ l.drop (i + new.length)) := by
  induction i generalizing l k with
  | zero => simp [spliceL, overL_iff]
  | succ i ih => cases l with
    | nil => simp [spliceL]
    | cons a r =>
      intro h
      have := ih h
      simp only [List.length_cons]
      refine ⟨by omega, ?_⟩
      rw [Nat.add_right_comm]
      simpa using this.2
theorem getL_iff {l : List α} {i : Nat} {k : α → Prop} : getL l i k ↔ ∃ v, l[i]? = some v ∧ k v := by
  induction l generalizing i with
  | nil => simp [getL]
  | cons a r ih => cases i with
    | zero => simp [getL]
    | succ i => simp [getL, ih]
theorem repL_iff {n : Nat} {a : α} {k : List α → Prop} : repL n a k ↔ k (List.replicate n a) := by
  induction n generalizing k with
  | zero => simp [repL]
  | succ n ih => simp [repL, ih, List.replicate_succ]
theorem lenL_iff {l : List α} {k : Nat → Prop} : lenL l k ↔ k l.length := by
  induction l generalizing k with
  | nil => simp [lenL]
  | cons a r ih => simp [lenL, ih]
theorem appL_iff {a b : List α} {k : List α → Prop} : appL a b k ↔ k (a ++ b) := by
  induction a generalizing k with
  | nil => simp [appL]
  | cons x r ih => simp [appL, ih]
end
theorem whenB_iff {b : Bool} {K : Prop} : whenB b K ↔ b = true ∧ K := by cases b <;> simp [whenB]
theorem need_iff {p K : Prop} : need p K ↔ p ∧ K := by unfold need; exact Iff.rfl
theorem choice_iff {A B : Prop} : choice A B ↔ A ∨ B := by unfold choice; exact Iff.rfl
theorem branch_at {b : Bool} {T E : Prop} (h : branch b T E) : if b then T else E := by
  unfold branch at h
  cases b
  · exact h.2 rfl
  · exact h.1 rfl
theorem force_iff {v : AVal} {k : AVal → Prop} : force v k ↔ k v := by
  cases v <;> simp [force]
theorem evalL_iff {tm : List AVal} {xs : List Operand} {k : List AVal → Prop} : evalL tm xs k ↔ k (xs.map (evalO tm)) := by
  induction xs generalizing k with
  | nil => simp [evalL]
  | cons x r ih => simp [evalL, force_iff, ih]
theorem sameKind_iff {a b : IntKind} : sameKind a b = true ↔ a = b := by cases a <;> cases b <;> simp [sameKind]
def tdOf : TypeDesc → TD
  | .int k => .int k
  | .bool => .bool
  | .string => .str
  | .pointer _ => .ptr
  | .slice e => .slice e
  | .array n e => .arr n e
  | .struct fs => .struct (fs.toList.map fun f => (f.offset, f.type))
  | .func .. => .func
  | _ => .other
def eqPlain (P : Program) (t : TypeId) : Bool :=
  !(P.eqGuardType P.depth t) && (match P.underlying t with | some (.struct fs) => !P.stoodInHeld t && fs.all (fun f => f.name != "_") | _ => true)
def tiOf (P : Program) (t : TypeId) : Option TI :=
  match P.info? t, P.underlying t with
  | some i, some d => some ⟨i.size, i.bytes, tdOf d, i.zero.map fun z => z.cells.toList.map .ofV1, eqPlain P t⟩
  | _, _ => none
def tenvOf (P : Program) : TEnv := (List.range P.types.size).map fun t => (tiOf P t).getD ⟨0, 0, .other, none, false⟩
def tenvGood (P : Program) : Bool := (List.range P.types.size).all fun t => (tiOf P t).isSome
def TOK (P : Program) (T : TEnv) : Prop := ∀ (t : Nat) (ti : TI), T[t]? = some ti → tiOf P t = some ti
theorem tok_of {P : Program} {T : TEnv} (h : tenvOf P = T) (hg : tenvGood P = true) : TOK P T := by
  subst h
  intro t ti h
  unfold tenvOf at h
  rw [List.getElem?_map] at h
  obtain ⟨t', ht', rfl⟩ := Option.map_eq_some_iff.1 h
  have ht : t' = t ∧ t < P.types.size := by
    obtain ⟨h1, h2⟩ := List.getElem?_eq_some_iff.1 ht'
    simp at h1 h2
    exact ⟨h2.symm, h1⟩
  obtain ⟨rfl, hlt⟩ := ht
  have := List.all_eq_true.1 hg t' (List.mem_range.2 hlt)
  obtain ⟨x, hx⟩ := Option.isSome_iff_exists.1 this
  simp [hx]
section
variable {P : Program} {T : TEnv}
theorem TOK.info (h : TOK P T) {t : Nat} {ti : TI} (ht : T[t]? = some ti) : ∃ i d, P.info? t = some i ∧ P.underlying t = some d ∧ ti = ⟨i.size, i.bytes, tdOf d, i.zero.map fun z => z.cells.toList.map .ofV1, eqPlain P t⟩ := by
  have := h t ti ht
  unfold tiOf at this
  split at this
  · rename_i i d hi hd
    exact ⟨i, d, hi, hd, by simpa using this.symm⟩
  · cases this
theorem TOK.size (h : TOK P T) {t : Nat} {ti : TI} (ht : T[t]? = some ti) (w : World) : (sizeOf t).run P w = .ok ti.size w := by
  obtain ⟨i, d, hi, _, rfl⟩ := h.info ht
  simp [sizeOf, typeInfo, hi]
theorem TOK.isAgg (h : TOK P T) {t : Nat} {ti : TI} (ht : T[t]? = some ti) (w : World) : (isAgg t).run P w = .ok ti.isAgg w := by
  obtain ⟨i, d, hi, hd, rfl⟩ := h.info ht
  unfold Go.isAgg
  rw [Sem.run_bind, run_underlying hd w]
  cases d <;> simp [TI.isAgg, tdOf]
theorem TOK.desc (h : TOK P T) {t : Nat} {ti : TI} (ht : T[t]? = some ti) : ∃ d, P.underlying t = some d ∧ ti.desc = tdOf d := by
  obtain ⟨i, d, hi, hd, rfl⟩ := h.info ht
  exact ⟨d, hd, rfl⟩
theorem TOK.int (h : TOK P T) {t a b : Nat} {k : IntKind} {z} {p} (ht : T[t]? = some ⟨a, b, .int k, z, p⟩) : P.underlying t = some (.int k) := by
  obtain ⟨d, hd, e⟩ := h.desc ht
  cases d <;> simp [tdOf] at e
  rw [e]; exact hd
theorem TOK.str (h : TOK P T) {t a b : Nat} {z} {p} (ht : T[t]? = some ⟨a, b, .str, z, p⟩) : P.underlying t = some .string := by
  obtain ⟨d, hd, e⟩ := h.desc ht
  cases d <;> simp [tdOf] at e
  exact hd
theorem TOK.bool (h : TOK P T) {t a b : Nat} {z} {p} (ht : T[t]? = some ⟨a, b, .bool, z, p⟩) : P.underlying t = some .bool := by
  obtain ⟨d, hd, e⟩ := h.desc ht
  cases d <;> simp [tdOf] at e
  exact hd
theorem TOK.ptr (h : TOK P T) {t a b : Nat} {z} {p} (ht : T[t]? = some ⟨a, b, .ptr, z, p⟩) : ∃ e, P.underlying t = some (.pointer e) := by
  obtain ⟨d, hd, e⟩ := h.desc ht
  cases d <;> simp [tdOf] at e
  exact ⟨_, hd⟩
theorem TOK.slice (h : TOK P T) {t a b e : Nat} {z} {p} (ht : T[t]? = some ⟨a, b, .slice e, z, p⟩) : P.underlying t = some (.slice e) := by
  obtain ⟨d, hd, e'⟩ := h.desc ht
  cases d <;> simp [tdOf] at e'
  rw [e']; exact hd
theorem TOK.arr (h : TOK P T) {t a b n e : Nat} {z} {p} (ht : T[t]? = some ⟨a, b, .arr n e, z, p⟩) : P.underlying t = some (.array n e) := by
  obtain ⟨d, hd, e'⟩ := h.desc ht
  cases d <;> simp [tdOf] at e'
  rw [e'.1, e'.2]; exact hd
theorem TOK.struct (h : TOK P T) {t a b : Nat} {fs} {z} {p} (ht : T[t]? = some ⟨a, b, .struct fs, z, p⟩) : ∃ gs, P.underlying t = some (.struct gs) ∧ fs = gs.toList.map fun f => (f.offset, f.type) := by
  obtain ⟨d, hd, e⟩ := h.desc ht
  cases d <;> simp [tdOf] at e
  exact ⟨_, hd, e⟩
theorem TOK.zero (h : TOK P T) {t : Nat} {ti : TI} {z : List AVal} (ht : T[t]? = some ti) (hz : ti.zero = some z) : ∃ v, (∀ w, (zeroValue t).run P w = .ok v w) ∧ z = v.cells.toList.map .ofV1 := by
  obtain ⟨i, d, hi, _, rfl⟩ := h.info ht
  obtain ⟨v, hv, rfl⟩ := Option.map_eq_some_iff.1 hz
  exact ⟨v, fun w => by simp [zeroValue, typeInfo, hi, hv], rfl⟩
end
section
variable {c : Cx} {u : Value}
theorem VRel.inv_int {k : IntKind} {n : Int} (h : VRel c (.int k n) u) : u = .int k n := by
  cases h with | closed h => cases h; rfl
theorem VRel.inv_bool {b : Bool} (h : VRel c (.bool b) u) : u = .bool b := by
  cases h with | closed h => cases h; rfl
theorem VRel.inv_str {s : ByteArray} (h : VRel c (.str s) u) : u = .string s := by
  cases h with | closed h => cases h; rfl
theorem VRel.inv_nilptr (h : VRel c .nilptr u) : u = .pointer none := by
  cases h with | closed h => cases h; rfl
theorem VRel.inv_nilslice (h : VRel c .nilslice u) : u = .slice none 0 0 := by
  cases h with | closed h => cases h; rfl
theorem VRel.inv_ptr {a : AAddr} (h : VRel c (.ptr a) u) : ∃ p, u = .pointer (some p) := by
  cases h with
  | closed h => cases h
  | ptr => exact ⟨_, rfl⟩
theorem VRel.inv_slice {a : AAddr} {n : Nat} (h : VRel c (.slice a n) u) : ∃ A k, u = .slice A n k ∧ n ≤ k := by
  cases h with
  | closed h => cases h
  | slice _ hk _ => exact ⟨_, _, rfl, hk⟩
theorem VRel.inv_ro {sz n : Nat} {row} (h : VRel c (.ro sz n row) u) : ∃ A k, u = .slice A n k ∧ n ≤ k := by
  cases h with
  | closed h => cases h with
    | roNil A c => exact ⟨_, _, rfl, Nat.zero_le _⟩
    | ro hc => exact ⟨_, _, rfl, hc⟩
theorem VRel.inv_agg {cs : List AVal} (h : VRel c (.agg cs) u) : ∃ us, u = .agg us ∧ cs.length = us.size ∧ ∀ (i : Nat) (v : AVal) (u : Value), cs[i]? = some v → us[i]? = some u → VRel c v u := by
  cases h with
  | closed h => cases h
  | agg hl h => exact ⟨_, rfl, hl, h⟩
theorem VRel.inv_tuple {cs : List AVal} (h : VRel c (.tuple cs) u) : ∃ us, u = .tuple us ∧ cs.length = us.size ∧ ∀ (i : Nat) (v : AVal) (u : Value), cs[i]? = some v → us[i]? = some u → VRel c v u := by
  cases h with
  | closed h => cases h
  | tuple hl h => exact ⟨_, rfl, hl, h⟩
theorem VRel.inv_fn {f : Fn} {as bs : List AVal} (h : VRel c (.fn f as bs) u) : ∃ us vs, u = .func f us vs ∧ (as.length = us.size ∧ ∀ (i : Nat) (v : AVal) (u : Value), as[i]? = some v → us[i]? = some u → VRel c v u) ∧ (bs.length = vs.size ∧ ∀ (i : Nat) (v : AVal) (u : Value), bs[i]? = some v → vs[i]? = some u → VRel c v u) := by
  cases h with
  | closed h => cases h
  | fn a b c d => exact ⟨_, _, rfl, ⟨a, b⟩, ⟨c, d⟩⟩
theorem VRel.mk_int (c : Cx) (k : IntKind) (n : Int) : VRel c (.int k n) (.int k n) := .closed (.int k n)
theorem VRel.mk_bool (c : Cx) (b : Bool) : VRel c (.bool b) (.bool b) := .closed (.bool b)
theorem VRel.mk_str (c : Cx) (s : ByteArray) : VRel c (.str s) (.string s) := .closed (.str s)
end
theorem ofV1_rel (c : Cx) (v : Value) : VRel c (.ofV1 v) v := by
  unfold AVal.ofV1
  split <;> first | exact .closed (.int _ _) | exact .closed (.bool _) | exact .closed (.str _) | exact .closed .nilptr | exact .closed .nilslice | exact .closed .nilfn | exact .any _
theorem ofV_rel (c : Cx) (v : Value) : VRel c (.ofV v) v := by
  unfold AVal.ofV
  split
  · rename_i cs
    refine .agg (by simp) fun i v u h1 h2 => ?_
    rw [List.getElem?_map] at h1
    obtain ⟨x, hx, rfl⟩ := Option.map_eq_some_iff.1 h1
    rw [Array.getElem?_toList] at hx
    rw [h2] at hx
    cases hx
    exact ofV1_rel c u
  · exact ofV1_rel c v
theorem eval_rel {c : Cx} {tm : List AVal} {a : Act} (h : TRel c tm a.tmps) (x : Operand) : VRel c (evalO tm x) (a.eval x) := by
  cases x with
  | tmp t =>
    simp only [evalO, Act.eval]
    by_cases ht : t < tm.length
    · have ht' : t < a.tmps.size := by rw [← h.1]; exact ht
      have := h.2 t tm[t] a.tmps[t] (List.getElem?_eq_getElem ht) (Array.getElem?_eq_getElem ht')
      rw [List.getD_eq_getElem?_getD, List.getElem?_eq_getElem ht]
      simpa [Array.getD, ht'] using this
    · have hn := List.getElem?_eq_none (l := tm) (i := t) (Nat.not_lt.1 ht)
      rw [List.getD_eq_getElem?_getD, hn]
      exact .any _
  | const v => exact ofV_rel c v
  | global g => exact .any _
  | func f => exact .fn (by simp) (by simp) (by simp) (by simp)
def CRel (c : Cx) (cs : List AVal) (us : List Value) : Prop := cs.length = us.length ∧ ∀ (i : Nat) (v : AVal) (u : Value), cs[i]? = some v → us[i]? = some u → VRel c v u
theorem CRel.nil (c : Cx) : CRel c [] [] := ⟨rfl, by simp⟩
theorem CRel.take {c : Cx} {cs us} (h : CRel c cs us) (n : Nat) : CRel c (cs.take n) (us.take n) :=
  ⟨by simp [h.1], fun i v u h1 h2 => by
    rw [List.getElem?_take] at h1 h2
    split at h1
    · rename_i hi; rw [if_pos hi] at h2; exact h.2 i v u h1 h2
    · cases h1⟩
theorem CRel.drop {c : Cx} {cs us} (h : CRel c cs us) (n : Nat) : CRel c (cs.drop n) (us.drop n) :=
  ⟨by simp [h.1], fun i v u h1 h2 => by rw [List.getElem?_drop] at h1 h2; exact h.2 _ v u h1 h2⟩
theorem CRel.append {c : Cx} {cs us cs' us'} (h : CRel c cs us) (h' : CRel c cs' us') : CRel c (cs ++ cs') (us ++ us') :=
  ⟨by simp [h.1, h'.1], fun i v u h1 h2 => by
    by_cases hi : i < cs.length
    · rw [List.getElem?_append_left hi] at h1
      rw [List.getElem?_append_left (by rw [← h.1]; exact hi)] at h2
      exact h.2 i v u h1 h2
    · rw [List.getElem?_append_right (by omega)] at h1
      rw [List.getElem?_append_right (by rw [← h.1]; omega), ← h.1] at h2
      exact h'.2 _ v u h1 h2⟩
theorem CRel.agg {c : Cx} {cs : List AVal} {us : Array Value} (h : CRel c cs us.toList) : VRel c (.agg cs) (.agg us) :=
  .agg (by simpa using h.1) fun i v u h1 h2 => h.2 i v u h1 (by rw [Array.getElem?_toList]; exact h2)
theorem CRel.of_agg {c : Cx} {cs : List AVal} {us : Array Value} (hl : cs.length = us.size) (h : ∀ (i : Nat) (v : AVal) (u : Value), cs[i]? = some v → us[i]? = some u → VRel c v u) : CRel c cs us.toList :=
  ⟨by simpa using hl, fun i v u h1 h2 => h i v u h1 (by rw [Array.getElem?_toList] at h2; exact h2)⟩
theorem CRel.one {c : Cx} {v : AVal} {u : Value} (h : VRel c v u) : CRel c [v] [u] :=
  ⟨rfl, fun i v' u' h1 h2 => by
    cases i with
    | zero => simp at h1 h2; subst h1; subst h2; exact h
    | succ i => simp at h1⟩
theorem cells_rel {c : Cx} {v : AVal} {u : Value} (h : VRel c v u) (hv : allOne v.cells = true) : CRel c v.cells u.cells.toList := by
  cases h with
  | agg hl h => exact .of_agg hl h
  | closed h =>
    have h' := VRel.closed (c := c) h
    cases h <;> exact .one h'
  | any u => simp [AVal.cells, allOne, AVal.one] at hv
  | tuple hl h => simp [AVal.cells, allOne, AVal.one] at hv
  | ptr hb h => exact .one (.ptr hb h)
  | slice hb hk h => exact .one (.slice hb hk h)
  | roptr a b c d e f => exact .one (.roptr a b c d e f)
  | fn a b c d => exact .one (.fn a b c d)
end Go.E
namespace Go.E
def OpOK (P : Program) (op : Op) (a : Act) (c : Cx) (k : AVal → Prop) : Prop :=
  ∃ v u, k v ∧ VRel c v u ∧ ∀ o : Oper, o.op = op → (execOp a.eval o).run P c.w = .ok (.value u) c.w
theorem OpOK.mono {P op a c} {k k' : AVal → Prop} (h : OpOK P op a c k) (hk : ∀ v, k v → k' v) : OpOK P op a c k' :=
  let ⟨v, u, h1, h2, h3⟩ := h
  ⟨v, u, hk v h1, h2, h3⟩
section
variable {P : Program} {T : TEnv} {c : Cx} {a : Act} {tm : List AVal}
theorem part_ok (hT : TOK P T) {t : Nat} {ti : TI} (ht : T[t]? = some ti) {cs : List AVal} {us : Array Value} (hc : CRel c cs us.toList) {off : Nat} {k : AVal → Prop}
    (h : partW ti cs off k) : ∃ v u, k v ∧ VRel c v u ∧ ∀ w, (part t us off).run P w = .ok u w := by
  unfold partW at h
  cases hag : ti.isAgg with
  | true =>
    simp only [hag] at h
    obtain ⟨h1, h2, h3⟩ := dropTakeL_iff h
    refine ⟨_, .agg (us.extract off (off + ti.size)), h3, ?_, fun w => by simp [part, hT.isAgg ht, hag, hT.size ht]⟩
    refine CRel.agg ?_
    have := (hc.drop off).take ti.size
    simpa [List.extract_eq_take_drop, Nat.add_sub_cancel_left] using this
  | false =>
    simp only [hag] at h
    obtain ⟨v, h1, h2⟩ := getL_iff.1 h
    rw [force_iff] at h2
    have hlt : off < us.toList.length := by rw [← hc.1]; exact (List.getElem?_eq_some_iff.1 h1).1
    have hu : us[off]? = some us[off] := Array.getElem?_eq_getElem (by simpa using hlt)
    refine ⟨v, us[off], h2, hc.2 off v _ h1 (by rw [Array.getElem?_toList]; exact hu), fun w => by simp [part, hT.isAgg ht, hag, hu]⟩
theorem fold_get (off : Nat) (vs : List Value) : ∀ (n : Nat) (cs : Array Value), off + n + vs.length ≤ cs.size → ∀ i,
    ((vs.zipIdx n).foldl (fun cs (x : Value × Nat) => cs.setIfInBounds (off + x.2) x.1) cs)[i]? = if off + n ≤ i ∧ i < off + n + vs.length then vs[i - (off + n)]? else cs[i]? := by
  induction vs with
  | nil => intro n cs _ i; simp; intro h1 h2; omega
  | cons v r ih =>
    intro n cs h i
    simp only [List.length_cons] at h
    rw [List.zipIdx_cons, List.foldl_cons, ih (n + 1) _ (by simp; omega)]
    simp only [List.length_cons]
    by_cases h1 : off + (n + 1) ≤ i ∧ i < off + (n + 1) + r.length
    · rw [if_pos h1, if_pos (by omega), show i - (off + n) = (i - (off + (n + 1))) + 1 by omega, List.getElem?_cons_succ]
    · rw [if_neg h1]
      by_cases h2 : i = off + n
      · subst h2
        rw [if_pos (by omega), Nat.sub_self, List.getElem?_cons_zero, Array.getElem?_setIfInBounds_self, if_pos (by omega)]
      · rw [if_neg (by omega), Array.getElem?_setIfInBounds_ne (by omega)]
theorem fold_list (cs : Array Value) (off : Nat) (vs : Array Value) (h : off + vs.size ≤ cs.size) :
    (vs.zipIdx.foldl (fun cs (x : Value × Nat) => cs.setIfInBounds (off + x.2) x.1) cs).toList = cs.toList.take off ++ vs.toList ++ cs.toList.drop (off + vs.size) := by
  apply List.ext_getElem?
  intro i
  rw [← Array.foldl_toList, Array.toList_zipIdx, Array.getElem?_toList, fold_get off vs.toList 0 cs (by simpa using h)]
  simp only [Nat.add_zero, Array.length_toList]
  have hl : (cs.toList.take off).length = off := by rw [List.length_take, Array.length_toList]; omega
  by_cases h1 : i < off
  · rw [if_neg (by omega), List.append_assoc, List.getElem?_append_left (by omega), List.getElem?_take, if_pos h1, Array.getElem?_toList]
  · by_cases h2 : i < off + vs.size
    · rw [if_pos (by omega), List.append_assoc, List.getElem?_append_right (by omega), hl, List.getElem?_append_left (by rw [Array.length_toList]; omega)]
    · rw [if_neg (by omega), List.getElem?_append_right (by simp; omega), List.getElem?_drop, Array.getElem?_toList]
      congr 1
      simp
      omega
theorem fill_ok {place : Nat → Option (Nat × Nat)} (hr : TRel c tm a.tmps) :
    ∀ (parts : List (Nat × Operand)) (cells : List AVal) (us : Array Value) (k : List AVal → Prop), CRel c cells us.toList → fillW place tm parts cells k →
      ∃ cells' us', k cells' ∧ CRel c cells' us'.toList ∧ Instr.fill place us (parts.map fun (i, x) => (i, a.eval x)) = some us' ∧ us'.size = us.size := by
  intro parts
  induction parts with
  | nil => intro cells us k hc h; exact ⟨cells, us, h, hc, rfl, rfl⟩
  | cons p rest ih =>
    obtain ⟨i, x⟩ := p
    intro cells us k hc h
    unfold fillW at h
    cases hp : place i with
    | none => simp [hp] at h
    | some q =>
      obtain ⟨off, size⟩ := q
      simp only [hp, force_iff, whenB_iff, lenL_iff] at h
      obtain ⟨h1, h2, h3⟩ := h
      have h2 : (evalO tm x).cells.length = size := Nat.eq_of_beq_eq_true h2
      obtain ⟨h4, h5⟩ := spliceL_iff h3
      have hv := cells_rel (eval_rel hr x) h1
      have hsz : (a.eval x).cells.size = size := by rw [← h2, hv.1]; simp
      have hus : us.size = cells.length := by rw [hc.1]; simp
      have hfl := fold_list us off (a.eval x).cells (by rw [hsz, hus, ← h2]; exact h4)
      obtain ⟨cells', us', g1, g2, g3, g4⟩ := ih _ (((a.eval x).cells.zipIdx).foldl (fun cs (x : Value × Nat) => cs.setIfInBounds (off + x.2) x.1) us) k (by
        rw [hfl, hsz, ← h2]
        exact ((hc.take off).append hv).append (hc.drop _)) h5
      have hfs : (((a.eval x).cells.zipIdx).foldl (fun cs (x : Value × Nat) => cs.setIfInBounds (off + x.2) x.1) us).size = us.size := by
        have := congrArg List.length hfl
        rw [Array.length_toList] at this
        rw [this]
        simp
        omega
      refine ⟨cells', us', g1, g2, ?_, by rw [g4, hfs]⟩
      simp only [List.map_cons, Instr.fill, hp]
      rw [if_neg (by simp only [hsz, hus, ← h2]; simp; omega)]
      exact g3
end
end Go.E
namespace Go.E
section
variable {P : Program} {T : TEnv} {c : Cx} {a : Act} {tm : List AVal} {k : AVal → Prop}
theorem mk_ok {op : Op} {v : AVal} {u : Value} (hk : k v) (hv : VRel c v u) (h : ∀ o : Oper, o.op = op → (execOp a.eval o).run P c.w = .ok (.value u) c.w) : OpOK P op a c k := ⟨v, u, hk, hv, h⟩
theorem ok_intBin {op : BinOp} {kk : IntKind} {x y : Int} {t t' : TypeId} {p q : Operand} (h : intBin op kk x y k) (hx : a.eval p = .int kk x) (hy : a.eval q = .int kk y) : OpOK P (.binOp op t p q t') a c k := by
  cases op <;> simp only [intBin, need_iff] at h
  all_goals first
    | exact mk_ok h (.mk_int c _ _) (fun o ho => by simp [execOp, ho, hx, hy, eqGuard, binOp, Op.intArith, Op.intBits])
    | exact mk_ok h (.mk_bool c _) (fun o ho => by simp [execOp, ho, hx, hy, eqGuard, binOp, Op.intCmp])
    | exact mk_ok h.2 (.mk_int c _ _) (fun o ho => by simp [execOp, ho, hx, hy, eqGuard, binOp, Op.intDiv, h.1])
theorem ok_intShift {op : BinOp} {kk kk' : IntKind} {x y : Int} {t t' : TypeId} {p q : Operand} (h : intShift op kk x y k) (hx : a.eval p = .int kk x) (hy : a.eval q = .int kk' y) : OpOK P (.binOp op t p q t') a c k := by
  cases op <;> simp only [intShift, need_iff] at h
  case shl => exact mk_ok h.2 (.mk_int c _ _) (fun o ho => by simp [execOp, ho, hx, hy, eqGuard, binOp, Op.shift, Int.not_lt.2 h.1])
  case shr => exact mk_ok h.2 (.mk_int c _ _) (fun o ho => by simp [execOp, ho, hx, hy, eqGuard, binOp, Op.shift, Int.not_lt.2 h.1])
  all_goals exact h.elim
theorem ok_strBin {op : BinOp} {x y : ByteArray} {t t' : TypeId} {p q : Operand} (h : strBin op x y k) (hx : a.eval p = .string x) (hy : a.eval q = .string y) : OpOK P (.binOp op t p q t') a c k := by
  cases op <;> simp only [strBin, need_iff] at h
  case add => exact mk_ok h.2 (.mk_str c _) (fun o ho => by
      have h1 := h.1
      rw [show IntKind.i64.max = 9223372036854775807 from rfl] at h1
      simp only [execOp, ho, hx, hy]
      simp [eqGuard, binOp, Op.stringOp]
      omega)
  case eql => exact mk_ok h (.mk_bool c _) (fun o ho => by simp [execOp, ho, hx, hy, eqGuard, binOp, Op.stringOp])
  case neq => exact mk_ok h (.mk_bool c _) (fun o ho => by simp [execOp, ho, hx, hy, eqGuard, binOp, Op.stringOp])
theorem ok_eq {op : BinOp} {b : Bool} {t t' : TypeId} {p q : Operand} {x y : Value} (h : eqW op b k) (hx : a.eval p = x) (hy : a.eval q = y)
    (hg : (eqGuard .eql t p q x y).run P c.w = .ok () c.w) (hg' : (eqGuard .neq t p q x y).run P c.w = .ok () c.w)
    (he : binOp .eql t x y = (do pure (.bool (← Op.equal t x y)))) (hn : binOp .neq t x y = (do pure (.bool (!(← Op.equal t x y)))))
    (hb : (Op.equal t x y).run P c.w = .ok b c.w) : OpOK P (.binOp op t p q t') a c k := by
  cases op <;> simp only [eqW] at h
  case eql => exact mk_ok h (.mk_bool c _) (fun o ho => by simp [execOp, ho, hx, hy, hg, he, hb])
  case neq => exact mk_ok h (.mk_bool c _) (fun o ho => by simp [execOp, ho, hx, hy, hg', hn, hb])
  all_goals exact h.elim
theorem run_equal_bool {t : TypeId} (ht : P.underlying t = some .bool) (x y : Bool) (w : World) : (Op.equal t (.bool x) (.bool y)).run P w = .ok (x == y) w := by
  show (Op.equalIn (9999 + 1) t (.bool x) (.bool y)).run P w = _
  rw [Op.equalIn]
  simp [run_underlying ht]
theorem run_equal_ptr {t e : TypeId} (ht : P.underlying t = some (.pointer e)) (x : Option Addr) (w : World) : (Op.equal t (.pointer x) (.pointer none)).run P w = .ok x.isNone w := by
  show (Op.equalIn (9999 + 1) t (.pointer x) (.pointer none)).run P w = _
  rw [Op.equalIn]
  cases x <;> simp [run_underlying ht]
theorem lenW_ok (hT : TOK P T) {t : Nat} {x : Operand} {v : AVal} (hv : VRel c v (a.eval x)) (h : lenW T t v k) {args : Array Operand} {ts : Array TypeId} (ha : args = #[x]) (hs : ts = #[t]) : OpOK P (.call ⟨.builtin .len, args, ts⟩) a c k := by
  subst ha; subst hs
  unfold lenW at h
  split at h
  · rename_i s ht
    exact mk_ok h (.mk_int c _ _) (fun o ho => by simp [execOp, ho, resolve, invoke, builtin, Builtin.len_, run_underlying (hT.str ht), hv.inv_str, goInt])
  · rename_i n ht
    obtain ⟨A, kk, hu, _⟩ := hv.inv_slice
    exact mk_ok h (.mk_int c _ _) (fun o ho => by simp [execOp, ho, resolve, invoke, builtin, Builtin.len_, run_underlying (hT.slice ht), hu, goInt])
  · rename_i n row ht
    obtain ⟨A, kk, hu, _⟩ := hv.inv_ro
    exact mk_ok h (.mk_int c _ _) (fun o ho => by simp [execOp, ho, resolve, invoke, builtin, Builtin.len_, run_underlying (hT.slice ht), hu, goInt])
  · rename_i ht
    exact mk_ok h (.mk_int c _ _) (fun o ho => by simp [execOp, ho, resolve, invoke, builtin, Builtin.len_, run_underlying (hT.slice ht), hv.inv_nilslice, goInt])
  · rename_i n e ht
    exact mk_ok h (.mk_int c _ _) (fun o ho => by simp [execOp, ho, resolve, invoke, builtin, Builtin.len_, run_underlying (hT.arr ht), goInt])
  · exact h.elim
theorem minInt_ok (isMax : Bool) : ∀ (r : List AVal) (us : List Value) (kk : IntKind) (x : Int) (w : World), CRel c r us → minInt kk isMax x r k → ∃ n, k (.int kk n) ∧ (us.foldlM (if isMax then Builtin.max2 else Builtin.min2) (Value.int kk x)).run P w = .ok (.int kk n) w := by
  intro r
  induction r with
  | nil =>
    intro us kk x w hc h
    cases us with
    | nil => exact ⟨x, h, by simp⟩
    | cons u us => simp [CRel] at hc
  | cons v r ih =>
    intro us kk x w hc h
    cases us with
    | nil => simp [CRel] at hc
    | cons u us =>
      cases v with
      | int kk' y =>
        simp only [minInt] at h
        cases hs : sameKind kk kk' with
        | false => simp [hs] at h
        | true =>
          simp only [hs] at h
          have hu : u = .int kk' y := (hc.2 0 _ _ rfl rfl).inv_int
          have hc' : CRel c r us := ⟨by have := hc.1; simpa using this, fun i v u h1 h2 => hc.2 (i + 1) v u (by simpa using h1) (by simpa using h2)⟩
          obtain ⟨n, g1, g2⟩ := ih us kk _ w hc' h
          refine ⟨n, g1, ?_⟩
          rw [List.foldlM_cons, hu, Sem.run_bind]
          cases isMax <;> simp [Builtin.max2, Builtin.min2] at g2 ⊢ <;> exact g2
      | _ => simp [minInt] at h
theorem evals_rel (hr : TRel c tm a.tmps) (xs : List Operand) : CRel c (xs.map (evalO tm)) (xs.map a.eval) :=
  ⟨by simp, fun i v u h1 h2 => by
    rw [List.getElem?_map] at h1 h2
    cases hx : xs[i]? with
    | none => simp [hx] at h1
    | some x =>
      simp only [hx, Option.map_some, Option.some.injEq] at h1 h2
      subst h1; subst h2
      exact eval_rel hr x⟩
theorem ok_minmax (hr : TRel c tm a.tmps) (isMax : Bool) {args : Array Operand} {ts : Array TypeId} (h : evalL tm args.toList fun vs => (match vs with | .int kk x :: r => minInt kk isMax x r k | _ => False)) :
    OpOK P (.call ⟨.builtin (if isMax then .max else .min), args, ts⟩) a c k := by
  rw [evalL_iff] at h
  have hc := evals_rel (c := c) hr args.toList
  generalize hvs : args.toList.map (evalO tm) = vs at h hc
  split at h
  · rename_i kk x r
    cases hus : args.toList.map a.eval with
    | nil => rw [hus] at hc; simp [CRel] at hc
    | cons u us =>
      rw [hus] at hc
      have hu : u = .int kk x := (hc.2 0 _ _ rfl rfl).inv_int
      subst hu
      have hc' : CRel c r us := ⟨by have := hc.1; simpa using this, fun i v u h1 h2 => hc.2 (i + 1) v u (by simpa using h1) (by simpa using h2)⟩
      obtain ⟨n, g1, g2⟩ := minInt_ok (P := P) isMax r us kk x c.w hc' h
      refine mk_ok g1 (.mk_int c _ _) (fun o ho => ?_)
      cases isMax <;> simp at g2 <;> simp [execOp, ho, resolve, invoke, builtin, Builtin.min_, Builtin.max_, hus, g2]
  · exact h.elim
theorem bounds_ok {isSlice : Bool} {n cap : Nat} {lo hi : Option Operand} {K : Nat → Nat → Prop} (hr : TRel c tm a.tmps) (hn : n ≤ cap)
    (h : boundsW n (lo.map (evalO tm)) (hi.map (evalO tm)) K) : ∃ l hh, l ≤ hh ∧ hh ≤ n ∧ K l hh ∧ ∀ w, (Instr.sliceBounds isSlice n cap (lo.map a.eval) (hi.map a.eval) none).run P w = .ok (l, hh, cap) w := by
  unfold boundsW at h
  cases lo with
  | none =>
    cases hi with
    | none => exact ⟨0, n, Nat.zero_le _, Nat.le_refl _, by simpa using h, fun w => by simp [Instr.sliceBounds]⟩
    | some y =>
      simp only [Option.map_none, Option.map_some] at h
      split at h <;> simp_all
      rename_i kk hv heq
      rw [need_iff] at h
      have hy := heq ▸ eval_rel hr y
      obtain ⟨⟨h1, h2⟩, h3⟩ := h
      refine ⟨0, hv.toNat, Nat.zero_le _, by omega, h3, fun w => ?_⟩
      have := hy.inv_int
      simp [Instr.sliceBounds, Instr.sliceBound, this, asIntOf, h1, show hv ≤ (cap : Int) by omega]
  | some x =>
    cases hi with
    | none =>
      simp only [Option.map_none, Option.map_some] at h
      split at h <;> simp_all
      rename_i kk lv heq
      rw [need_iff] at h
      have hx := heq ▸ eval_rel hr x
      obtain ⟨⟨h1, h2⟩, h3⟩ := h
      refine ⟨lv.toNat, n, by omega, Nat.le_refl _, h3, fun w => ?_⟩
      have := hx.inv_int
      simp [Instr.sliceBounds, Instr.sliceBound, this, asIntOf, h1, h2]
    | some y =>
      simp only [Option.map_some] at h
      split at h <;> simp_all
      rename_i kl lv kh hv heq1 heq2
      rw [need_iff] at h
      have hx := heq1 ▸ eval_rel hr x
      have hy := heq2 ▸ eval_rel hr y
      obtain ⟨⟨h1, h2, h3⟩, h4⟩ := h
      refine ⟨lv.toNat, hv.toNat, by omega, by omega, h4, fun w => ?_⟩
      have e1 := hx.inv_int
      have e2 := hy.inv_int
      simp [Instr.sliceBounds, Instr.sliceBound, e1, e2, asIntOf, show 0 ≤ hv by omega, show hv ≤ (cap : Int) by omega, h1, show lv ≤ (hv.toNat : Int) by omega]
      intro hlt
      omega
end
end Go.E
namespace Go.E
section
variable {P : Program} {T : TEnv} {c : Cx}
def eqElemsM (d : Nat) (elem : TypeId) (sz : Nat) (xs ys : Array Value) : Nat → Nat → Sem Bool
  | 0, _ => pure true
  | n + 1, i => do
    let a ← part elem xs (i * sz)
    let b ← part elem ys (i * sz)
    let r ← Op.equalIn d elem a b
    if (!r) = true then pure false else eqElemsM d elem sz xs ys n (i + 1)
theorem run_equalIn_array (w : World) (d : Nat) (t : TypeId) (len : Nat) (elem : TypeId) (sz : Nat) (xs ys : Array Value) (ht : P.underlying t = some (.array len elem)) (hs : ∀ w, (sizeOf elem).run P w = .ok sz w) :
    (Op.equalIn (d + 1) t (.agg xs) (.agg ys)).run P w = (eqElemsM d elem sz xs ys len 0).run P w := by
  simp only [Op.equalIn, Sem.run_bind, run_underlying ht, Result.andThen_ok, hs]
  rw [Std.Legacy.Range.forIn_eq_forIn_range']
  simp only [Std.Legacy.Range.size, Nat.sub_zero, Nat.add_sub_cancel, Nat.div_one]
  generalize 0 = i
  clear ht
  induction len generalizing w i with
  | zero => simp [eqElemsM]
  | succ n ih =>
    simp only [List.range'_succ, List.forIn_cons, eqElemsM, Sem.run_bind, Sem.run_ite]
    generalize (part elem xs (i * sz)).run P w = r1
    cases r1 with
    | ok a w1 =>
      simp only [Result.andThen_ok]
      generalize (part elem ys (i * sz)).run P w1 = r2
      cases r2 with
      | ok b w2 =>
        simp only [Result.andThen_ok]
        generalize (Op.equalIn d elem a b).run P w2 = r3
        cases r3 with
        | ok r w3 =>
          cases r
          · simp only [Result.andThen_ok, Bool.not_false, if_true, Sem.run_pure]
          · simp only [Result.andThen_ok, Bool.not_true, Bool.false_eq_true, if_false, Sem.run_pure]
            exact ih w3 (i + 1)
        | halt x w3 => simp [Result.andThen]
      | halt x w2 => simp [Result.andThen]
    | halt x w1 => simp [Result.andThen]
def valOf (ag : Bool) (us : Array Value) : Value := if ag then .agg us else us.getD 0 undef
theorem part_val (hT : TOK P T) {t : Nat} {ti : TI} (ht : T[t]? = some ti) {us : Array Value} {off : Nat} (h0 : 0 < ti.size) (h : off + ti.size ≤ us.size) (w : World) :
    (part t us off).run P w = .ok (valOf ti.isAgg (us.extract off (off + ti.size))) w := by
  cases hag : ti.isAgg with
  | true => simp [part, hT.isAgg ht, hag, hT.size ht, valOf]
  | false =>
    have hu : us[off]? = some us[off] := Array.getElem?_eq_getElem (by omega)
    simp only [part, Sem.run_bind, hT.isAgg ht, hag, Result.andThen_ok, hu]
    simp [valOf, Array.getD_eq_getD_getElem?, Array.getElem?_extract, hu]
    rw [if_pos (by omega)]
    rfl
theorem CRel.slice_ {xs : List AVal} {us : Array Value} (h : CRel c xs us.toList) (off n : Nat) : CRel c ((xs.drop off).take n) (us.extract off (off + n)).toList := by
  have := (h.drop off).take n
  simpa [List.extract_eq_take_drop, Nat.add_sub_cancel_left] using this
def EqOK (P : Program) (c : Cx) (d : Nat) (t : TypeId) (ag : Bool) (f : List AVal → List AVal → (Bool → Prop) → Prop) : Prop :=
  ∀ xs ys (us vs : Array Value) (k : Bool → Prop), CRel c xs us.toList → CRel c ys vs.toList → f xs ys k → ∃ b, k b ∧ ∀ D w, d ≤ D → (Op.equalIn D t (valOf ag us) (valOf ag vs)).run P w = .ok b w
theorem eqElems_ok (hT : TOK P T) {d e : Nat} {te : TI} (he : T[e]? = some te) (h0 : 0 < te.size) {f} (hf : EqOK P c d e te.isAgg f) {us vs : Array Value} {xs ys : List AVal} (hx : CRel c xs us.toList) (hy : CRel c ys vs.toList) :
    ∀ n i (k : Bool → Prop), eqT.eqElems te.size f n i xs ys k → ∃ b, k b ∧ ∀ D w, d ≤ D → (eqElemsM D e te.size us vs n i).run P w = .ok b w := by
  intro n
  induction n with
  | zero => intro i k h; exact ⟨true, h, fun D w _ => by simp [eqElemsM]⟩
  | succ n ih =>
    intro i k h
    unfold eqT.eqElems at h
    obtain ⟨_, h1, h⟩ := dropTakeL_iff h
    obtain ⟨_, h2, h⟩ := dropTakeL_iff h
    obtain ⟨b, h, hb⟩ := hf _ _ _ _ _ (hx.slice_ (i * te.size) te.size) (hy.slice_ (i * te.size) te.size) h
    obtain ⟨b', h, hb'⟩ := ih (i + 1) _ h
    refine ⟨_, h, fun D w hD => ?_⟩
    have l1 : i * te.size + te.size ≤ us.size := by have := hx.1; simp at this; omega
    have l2 : i * te.size + te.size ≤ vs.size := by have := hy.1; simp at this; omega
    simp only [eqElemsM, Sem.run_bind, part_val hT he h0 l1, part_val hT he h0 l2, Result.andThen_ok, hb D w hD]
    cases b
    · simp
    · simp [hb' D w hD]
theorem eqFields_ok (hT : TOK P T) {d : Nat} {f} (hf : ∀ e te, T[e]? = some te → EqOK P c d e te.isAgg (f e)) {us vs : Array Value} {xs ys : List AVal} (hx : CRel c xs us.toList) (hy : CRel c ys vs.toList) :
    ∀ (gs : List Field) (k : Bool → Prop), (∀ g ∈ gs, g.name ≠ "_") → eqT.eqFields T f (gs.map fun g => (g.offset, g.type)) xs ys k → ∃ b, k b ∧ ∀ D w, d ≤ D → (Op.eqFields D us vs gs).run P w = .ok b w := by
  intro gs
  induction gs with
  | nil => intro k _ h; exact ⟨true, h, fun D w _ => by simp [Op.eqFields]⟩
  | cons g gs ih =>
    intro k hn h
    simp only [List.map_cons, eqT.eqFields] at h
    cases he : T[g.type]? with
    | none => simp [he] at h
    | some te =>
      simp only [he, whenB_iff] at h
      obtain ⟨h0, h⟩ := h
      have h0 : 0 < te.size := by simp [Nat.blt] at h0; omega
      obtain ⟨_, h1, h⟩ := dropTakeL_iff h
      obtain ⟨_, h2, h⟩ := dropTakeL_iff h
      obtain ⟨b, h, hb⟩ := hf _ _ he _ _ _ _ _ (hx.slice_ g.offset te.size) (hy.slice_ g.offset te.size) h
      obtain ⟨b', h, hb'⟩ := ih _ (fun g' hg' => hn g' (List.mem_cons_of_mem _ hg')) h
      refine ⟨_, h, fun D w hD => ?_⟩
      have l1 : g.offset + te.size ≤ us.size := by have := hx.1; simp at this; omega
      have l2 : g.offset + te.size ≤ vs.size := by have := hy.1; simp at this; omega
      simp only [Op.eqFields, if_pos (hn g (List.mem_cons_self ..)), Sem.run_bind, part_val hT he h0 l1, part_val hT he h0 l2, Result.andThen_ok, hb D w hD]
      cases b
      · simp
      · simp [hb' D w hD]
theorem eqT_ok (hT : TOK P T) : ∀ (d t : Nat) (ti : TI), T[t]? = some ti → EqOK P c d t ti.isAgg (fun xs ys k => eqT T d t xs ys k) := by
  intro d
  induction d with
  | zero => intro t ti _ xs ys us vs k _ _ h; exact h.elim
  | succ d ih =>
    intro t ti ht xs ys us vs k hx hy h
    simp only [eqT, ht, whenB_iff] at h
    obtain ⟨hp, h⟩ := h
    obtain ⟨i, dd, hi, hd, rfl⟩ := hT.info ht
    have hgo : ∀ {D}, d + 1 ≤ D → ∃ D', D = D' + 1 ∧ d ≤ D' := fun {D} hD => ⟨D - 1, by omega, by omega⟩
    have two : ∀ {x y : AVal}, CRel c [x] us.toList → CRel c [y] vs.toList → VRel c x (us.getD 0 undef) ∧ VRel c y (vs.getD 0 undef) := by
      intro x y hx hy
      have l1 : 0 < us.size := by have := hx.1; simp at this; omega
      have l2 : 0 < vs.size := by have := hy.1; simp at this; omega
      have hx0 := hx.2 0 x us[0] rfl (by simp [l1])
      have hy0 := hy.2 0 y vs[0] rfl (by simp [l2])
      simpa [Array.getD, l1, l2] using And.intro hx0 hy0
    cases dd with
    | int kk =>
      simp only [tdOf] at h
      split at h
      · rename_i a x b y
        obtain ⟨hs, h⟩ := h
        have hs := sameKind_iff.1 hs
        subst hs
        refine ⟨_, h, fun D w hD => ?_⟩
        obtain ⟨D', rfl, _⟩ := hgo hD
        obtain ⟨e1, e2⟩ := two hx hy
        simp only [valOf, TI.isAgg, tdOf, Bool.false_eq_true, if_false]
        rw [e1.inv_int, e2.inv_int]
        exact run_equalIn_int w D' t _ _ _ _ hd
      · exact h.elim
    | bool =>
      simp only [tdOf] at h
      split at h
      · refine ⟨_, h, fun D w hD => ?_⟩
        obtain ⟨D', rfl, _⟩ := hgo hD
        obtain ⟨e1, e2⟩ := two hx hy
        simp only [valOf, TI.isAgg, tdOf, Bool.false_eq_true, if_false]
        rw [e1.inv_bool, e2.inv_bool]
        exact run_equalIn_bool' w D' t _ _ hd
      · exact h.elim
    | string =>
      simp only [tdOf] at h
      split at h
      · refine ⟨_, h, fun D w hD => ?_⟩
        obtain ⟨D', rfl, _⟩ := hgo hD
        obtain ⟨e1, e2⟩ := two hx hy
        simp only [valOf, TI.isAgg, tdOf, Bool.false_eq_true, if_false]
        rw [e1.inv_str, e2.inv_str, run_equalIn_string w D' t _ _ hd, beq_toListBytes]
      · exact h.elim
    | array n e =>
      simp only [tdOf] at h
      cases he : T[e]? with
      | none => simp [he] at h
      | some te =>
        simp only [he, whenB_iff] at h
        obtain ⟨h0, h⟩ := h
        have h0 : 0 < te.size := by simp [Nat.blt] at h0; omega
        obtain ⟨b, h, hb⟩ := eqElems_ok hT he h0 (ih e te he) hx hy n 0 k h
        refine ⟨b, h, fun D w hD => ?_⟩
        obtain ⟨D', rfl, hD'⟩ := hgo hD
        simp only [valOf, TI.isAgg, tdOf, if_true]
        rw [run_equalIn_array w D' t n e te.size us vs hd (hT.size he)]
        exact hb D' w hD'
    | struct fs =>
      simp only [tdOf] at h
      simp only [eqPlain, hd, Bool.and_eq_true, Bool.not_eq_true'] at hp
      obtain ⟨_, hp1, hp2⟩ := hp
      obtain ⟨b, h, hb⟩ := eqFields_ok hT ih hx hy fs.toList k (fun g hg => by
        have := Array.all_eq_true_iff_forall_mem.1 hp2 g (by simpa using hg)
        simpa using this) h
      refine ⟨b, h, fun D w hD => ?_⟩
      obtain ⟨D', rfl, hD'⟩ := hgo hD
      simp only [valOf, TI.isAgg, tdOf, if_true]
      have hfo : P.fieldsOf t = fs := by simp [Program.fieldsOf, hd]
      rw [run_equalIn_struct w D' t us vs (by rw [hfo]; exact hd) hp1, hfo]
      exact hb D' w hD'
    | _ => simp [tdOf] at h
end
end Go.E
namespace Go.E
theorem add_none (r o n : Nat) : (⟨r, o, none⟩ : Addr).add n = ⟨r, o + n, none⟩ := by
  unfold Addr.add
  split
  · rename_i h; subst h; rfl
  · rfl
theorem lin_off (blk : Blk) (b i j n : Nat) : lin blk ⟨b, i, j + n⟩ = lin blk ⟨b, i, j⟩ + n := by
  cases blk <;> simp [lin] <;> omega
section
variable {P : Program} {T : TEnv} {c : Cx} {a : Act} {tm : List AVal} {k : AVal → Prop}
theorem VRel.ptr_add {b i j : Nat} {p : Addr} (h : VRel c (.ptr ⟨b, i, j⟩) (.pointer (some p))) (n : Nat) : VRel c (.ptr ⟨b, i, j + n⟩) (.pointer (some (p.add n))) := by
  cases h with
  | closed h => cases h
  | ptr hb h =>
    refine .ptr (a := ⟨b, i, j + n⟩) hb fun hl => ?_
    obtain ⟨r, o, h1, h2⟩ := h hl
    exact ⟨r, o, h1, by rw [h2, add_none, lin_off, Nat.add_assoc]⟩
theorem VRel.roptr_add {sz n i j : Nat} {row} {p : Addr} (h : VRel c (.roptr sz n row i j) (.pointer (some p))) (m : Nat) : VRel c (.roptr sz n row i (j + m)) (.pointer (some (p.add m))) := by
  cases h with
  | closed h => cases h
  | roptr hi hx hb hlen hin hrel =>
    rw [add_none, Nat.add_assoc]
    exact .roptr hi hx hb hlen hin hrel
theorem VRel.inv_roptr {sz n i j : Nat} {row} {u : Value} (h : VRel c (.roptr sz n row i j) u) : ∃ p, u = .pointer (some p) := by
  cases h with
  | closed h => cases h
  | roptr => exact ⟨_, rfl⟩
theorem VRel.ro_at {sz n kk : Nat} {row} {A : Option Addr} (h : VRel c (.ro sz n row) (.slice A n kk)) {i : Nat} (hi : i < n) : ∃ p, A = some p ∧ VRel c (.roptr sz n row i 0) (.pointer (some (p.add (i * sz)))) := by
  cases h with
  | closed h => cases h with
    | roNil => omega
    | ro hc hx hb hlen hin hrel => exact ⟨_, rfl, by rw [add_none]; exact .roptr hi hx hb hlen hin hrel⟩
theorem VRel.ro_cut {sz n kk l h : Nat} {row} {A : Option Addr} (hv : VRel c (.ro sz n row) (.slice A n kk)) (hl : l ≤ h) (hh : h ≤ n) :
    VRel c (.ro sz (h - l) fun i => row (l + i)) (.slice (if kk = l then A else A.map (·.add (l * sz))) (h - l) (kk - l)) := by
  by_cases h0 : h - l = 0
  · rw [h0]; exact .closed (.roNil _ _)
  · cases hv with
    | closed hv => cases hv with
      | roNil => omega
      | ro hc hx hb hlen hin hrel =>
        rename_i r o cs t fr
        rw [if_neg (by omega)]
        simp only [Option.map_some, add_none]
        refine .closed (.ro (by omega) hx hb (fun i hi => hlen _ (by omega)) (fun i hi => ?_) (fun i hi j v u h1 h2 => ?_))
        · have := hin (l + i) (by omega)
          rw [Nat.add_mul] at this
          omega
        · refine hrel (l + i) (by omega) j v u h1 ?_
          rw [Nat.add_mul]
          rw [← h2]
          congr 1
          omega
theorem sizeT_ok (hT : TOK P T) {e es : Nat} (h : sizeT T e = some es) (w : World) : (sizeOf e).run P w = .ok es w := by
  unfold sizeT at h
  obtain ⟨ti, h1, rfl⟩ := Option.map_eq_some_iff.1 h
  exact hT.size h1 w
theorem places_ok (hT : TOK P T) : ∀ gs : List Field, fieldsOk T (gs.map fun f => (f.offset, f.type)) = true →
    ∃ places, gs.mapM (fun f => (P.info? f.type).map fun i => (f.offset, i.size)) = some places ∧ ∀ i, placeS T (gs.map fun f => (f.offset, f.type)) i = places[i]? := by
  intro gs
  induction gs with
  | nil => intro _; exact ⟨[], rfl, fun i => by simp [placeS]⟩
  | cons g gs ih =>
    intro h
    simp only [List.map_cons, fieldsOk] at h
    cases he : T[g.type]? with
    | none => simp [he] at h
    | some te =>
      simp only [he] at h
      obtain ⟨places, h1, h2⟩ := ih h
      obtain ⟨ii, d, hi, _, rfl⟩ := hT.info he
      refine ⟨(g.offset, ii.size) :: places, by simp [List.mapM_cons, hi, h1], fun i => ?_⟩
      cases i with
      | zero => simp [placeS, he]
      | succ i => simpa [placeS] using h2 i
theorem ok_build (hT : TOK P T) (hr : TRel c tm a.tmps) {t : TypeId} {parts : Array (Nat × Operand)} (h : pureW T (.build t parts) tm k) : OpOK P (.build t parts) a c k := by
  simp only [pureW] at h
  have hz0 : ∀ (v : Value), CRel c (v.cells.toList.map .ofV1) v.cells.toList := fun v => ⟨by simp, fun i x u h1 h2 => by
    rw [List.getElem?_map, h2] at h1
    cases h1
    exact ofV1_rel c u⟩
  split at h
  · rename_i fs z p ht
    obtain ⟨hf, h⟩ := whenB_iff.1 h
    obtain ⟨gs, hd, rfl⟩ := hT.struct ht
    obtain ⟨v, hz, rfl⟩ := hT.zero ht rfl
    obtain ⟨cells', us', g1, g2, g3, _⟩ := fill_ok hr parts.toList _ v.cells _ (hz0 v) h
    obtain ⟨places, p1, p2⟩ := places_ok hT gs.toList hf
    have g3' : Instr.fill (fun i => places[i]?) v.cells (parts.toList.map fun (i, x) => (i, a.eval x)) = some us' := by rw [← g3]; congr 1; funext i; exact (p2 i).symm
    exact mk_ok g1 (CRel.agg g2) (fun o ho => by
      simp [execOp, ho, Instr.build, hz, run_underlying hd, Array.mapM_eq_mapM_toList, run_places _ _ _ p1, g3'])
  · rename_i n e z p ht
    cases he : T[e]? with
    | none => simp [he] at h
    | some te =>
      simp only [he] at h
      have hd := hT.arr ht
      obtain ⟨v, hz, rfl⟩ := hT.zero ht rfl
      obtain ⟨cells', us', g1, g2, g3, _⟩ := fill_ok hr parts.toList _ v.cells _ (hz0 v) h
      exact mk_ok g1 (CRel.agg g2) (fun o ho => by
        simp [execOp, ho, Instr.build, hz, run_underlying hd, hT.size he, g3])
  · exact h.elim
theorem ok_move (hr : TRel c tm a.tmps) {x : Operand} (h : k (evalO tm x)) : OpOK P (.move x) a c k :=
  mk_ok h (eval_rel hr x) (fun o ho => by simp [execOp, ho])
theorem ok_assign (hr : TRel c tm a.tmps) {x : Operand} (h : k (evalO tm x)) : OpOK P (.assign x) a c k :=
  mk_ok h (eval_rel hr x) (fun o ho => by simp [execOp, ho])
theorem ok_pick (hr : TRel c tm a.tmps) {p x y : Operand} {t : Bool} (hp : evalO tm p = .bool t) (h : branch t (force (evalO tm x) k) (force (evalO tm y) k)) : OpOK P (.pick p x y) a c k := by
  have h1 := branch_at h
  have e := hp ▸ eval_rel hr p
  cases t with
  | true =>
    simp only [if_true, force_iff] at h1
    exact mk_ok h1 (eval_rel hr x) (fun o ho => by simp [execOp, ho, e.inv_bool, asBool])
  | false =>
    simp only [Bool.false_eq_true, if_false, force_iff] at h1
    exact mk_ok h1 (eval_rel hr y) (fun o ho => by simp [execOp, ho, e.inv_bool, asBool])
theorem ok_nilCheck (hr : TRel c tm a.tmps) {x : Operand} (h : pureW T (.nilCheck x) tm k) : OpOK P (.nilCheck x) a c k := by
  have e := eval_rel hr x
  simp only [pureW] at h
  split at h
  · rename_i b i j heq
    rw [heq] at e
    obtain ⟨p, hp⟩ := e.inv_ptr
    exact mk_ok h (hp ▸ e) (fun o ho => by simp [execOp, ho, hp])
  · rename_i sz n row i j heq
    rw [heq] at e
    obtain ⟨p, hp⟩ := e.inv_roptr
    exact mk_ok h (hp ▸ e) (fun o ho => by simp [execOp, ho, hp])
  · rename_i f as bs heq
    rw [heq] at e
    obtain ⟨us, vs, hp, _⟩ := e.inv_fn
    exact mk_ok h (hp ▸ e) (fun o ho => by simp [execOp, ho, hp])
  · exact h.elim
theorem ok_binOp (hT : TOK P T) (hr : TRel c tm a.tmps) {op : BinOp} {t t' : TypeId} {x y : Operand} (h : binW T op t (evalO tm x) (evalO tm y) k) : OpOK P (.binOp op t x y t') a c k := by
  have hx := eval_rel hr x
  have hy := eval_rel hr y
  unfold binW at h
  split at h
  · rename_i kk n k' m h1 h2
    rw [h1] at hx
    rw [h2] at hy
    split at h
    · exact ok_intShift h hx.inv_int hy.inv_int
    · split at h
      · rename_i hs
        have := sameKind_iff.1 hs
        subst this
        exact ok_intBin h hx.inv_int hy.inv_int
      · exact h.elim
  · rename_i b b' h1 h2
    rw [h1] at hx
    rw [h2] at hy
    split at h
    · rename_i ht
      exact ok_eq h hx.inv_bool hy.inv_bool (by simp [eqGuard]) (by simp [eqGuard]) rfl rfl (run_equal_bool (hT.bool ht) _ _ _)
    · exact h.elim
  · rename_i s s' h1 h2
    rw [h1] at hx
    rw [h2] at hy
    exact ok_strBin h hx.inv_str hy.inv_str
  · rename_i h1 h2
    rw [h1] at hx
    rw [h2] at hy
    split at h
    · rename_i ht
      obtain ⟨e, he⟩ := hT.ptr ht
      exact ok_eq h hx.inv_nilptr hy.inv_nilptr (by simp [eqGuard]) (by simp [eqGuard]) rfl rfl (run_equal_ptr he _ _)
    · exact h.elim
  · rename_i p h1 h2
    rw [h1] at hx
    rw [h2] at hy
    split at h
    · rename_i ht
      obtain ⟨e, he⟩ := hT.ptr ht
      obtain ⟨q, hq⟩ := hx.inv_ptr
      exact ok_eq h hq hy.inv_nilptr (by simp [eqGuard]) (by simp [eqGuard]) rfl rfl (run_equal_ptr he _ _)
    · exact h.elim
  · rename_i xs ys h1 h2
    rw [h1] at hx
    rw [h2] at hy
    obtain ⟨us, hu, hl, hc⟩ := hx.inv_agg
    obtain ⟨vs, hv, hl', hc'⟩ := hy.inv_agg
    cases ht : T[t]? with
    | none => simp [ht] at h
    | some ti =>
      simp only [ht] at h
      obtain ⟨hag, h⟩ := whenB_iff.1 h
      have hp : ti.plain = true := by simp only [eqT, ht, whenB_iff] at h; exact h.1
      obtain ⟨b, hb, hrun⟩ := eqT_ok hT 8 t ti ht xs ys us vs _ (.of_agg hl hc) (.of_agg hl' hc') h
      obtain ⟨ii, d, hi, hd, rfl⟩ := hT.info ht
      have hg : P.eqGuardType P.depth t = false := by
        simp only [eqPlain, Bool.and_eq_true, Bool.not_eq_true'] at hp
        exact hp.1
      refine ok_eq hb hu hv (run_eqGuard_agg c.w .eql t x y us vs hg) (run_eqGuard_agg c.w .neq t x y us vs hg) rfl rfl ?_
      have := hrun 10000 c.w (by omega)
      rw [hag] at this
      exact this
  · exact h.elim
theorem ok_fieldAddr (hT : TOK P T) (hr : TRel c tm a.tmps) {t f : Nat} {x : Operand} (h : pureW T (.fieldAddr t x f) tm k) : OpOK P (.fieldAddr t x f) a c k := by
  have e := eval_rel hr x
  simp only [pureW] at h
  split at h
  · rename_i fs z p ht
    obtain ⟨gs, hd, rfl⟩ := hT.struct ht
    split at h
    · rename_i o e' hf
      cases he : T[e']? with
      | none => simp [he] at h
      | some te =>
        simp only [he] at h
        obtain ⟨h0, h⟩ := whenB_iff.1 h
        have h0 : te.size ≠ 0 := by simp [Nat.blt] at h0; omega
        rw [List.getElem?_map] at hf
        obtain ⟨g, hg, hge⟩ := Option.map_eq_some_iff.1 hf
        simp only [Prod.mk.injEq] at hge
        obtain ⟨rfl, rfl⟩ := hge
        have hg' : gs[f]? = some g := by rwa [Array.getElem?_toList] at hg
        have run : ∀ q, (Instr.fieldAt t (.pointer (some q)) f).run P c.w = .ok (.pointer (some (q.add g.offset))) c.w := fun q => by
          simp [Instr.fieldAt, run_underlying hd, hg', Instr.sureAddr, fieldPlace, hT.size he, h0]
        split at h
        · rename_i b i j heq
          rw [heq] at e
          obtain ⟨q, hq⟩ := e.inv_ptr
          rw [hq] at e
          exact mk_ok h (e.ptr_add _) (fun o ho => by simp [execOp, ho, hq, run])
        · rename_i sz n row i j heq
          rw [heq] at e
          obtain ⟨q, hq⟩ := e.inv_roptr
          rw [hq] at e
          exact mk_ok h (e.roptr_add _) (fun o ho => by simp [execOp, ho, hq, run])
        · exact h.elim
    · exact h.elim
  · exact h.elim
theorem ok_field (hT : TOK P T) (hr : TRel c tm a.tmps) {t f : Nat} {x : Operand} (h : pureW T (.field t x f) tm k) : OpOK P (.field t x f) a c k := by
  have e := eval_rel hr x
  simp only [pureW] at h
  split at h
  · rename_i fs z p cs ht heq
    obtain ⟨gs, hd, rfl⟩ := hT.struct ht
    rw [heq] at e
    obtain ⟨us, hu, hl, hc⟩ := e.inv_agg
    split at h
    · rename_i o e' hf
      cases he : T[e']? with
      | none => simp [he] at h
      | some te =>
        simp only [he] at h
        rw [List.getElem?_map] at hf
        obtain ⟨g, hg, hge⟩ := Option.map_eq_some_iff.1 hf
        simp only [Prod.mk.injEq] at hge
        obtain ⟨rfl, rfl⟩ := hge
        have hg' : gs[f]? = some g := by rwa [Array.getElem?_toList] at hg
        obtain ⟨v, u, g1, g2, g3⟩ := part_ok hT he (.of_agg hl hc) h
        exact mk_ok g1 g2 (fun o ho => by simp [execOp, ho, hu, Instr.field, run_underlying hd, hg', asAgg, g3])
    · exact h.elim
  · exact h.elim
theorem str_get (s : ByteArray) (i : Nat) (h : i < s.size) : s[i]? = some (s.data.toList.getD i 0) := by
  have h' : i < s.data.toList.length := by simpa using h
  rw [List.getD_eq_getElem?_getD, List.getElem?_eq_getElem h']
  rw [getElem?_pos s i h]
  rfl
theorem ok_index (hT : TOK P T) (hr : TRel c tm a.tmps) {t : Nat} {x i : Operand} (h : pureW T (.index t x i) tm k) : OpOK P (.index t x i) a c k := by
  have e := eval_rel hr x
  have ei := eval_rel hr i
  simp only [pureW] at h
  split at h
  · rename_i n e' z p cs kk iv ht h1 h2
    rw [h1] at e
    rw [h2] at ei
    obtain ⟨us, hu, hl, hc⟩ := e.inv_agg
    obtain ⟨hb, h⟩ := need_iff.1 h
    cases he : T[e']? with
    | none => simp [he] at h
    | some te =>
      simp only [he] at h
      obtain ⟨v, u, g1, g2, g3⟩ := part_ok hT he (.of_agg hl hc) h
      exact mk_ok g1 g2 (fun o ho => by simp [execOp, ho, hu, ei.inv_int, Instr.index, asIntOf, run_underlying (hT.arr ht), hT.size he, hb, g3])
  · rename_i z p s kk iv ht h1 h2
    rw [h1] at e
    rw [h2] at ei
    obtain ⟨hb, h⟩ := need_iff.1 h
    have hs := str_get s iv.toNat (by omega)
    exact mk_ok h (.mk_int c _ _) (fun o ho => by
      simp only [execOp, ho, e.inv_str, ei.inv_int]
      simp [Instr.index, asIntOf, run_underlying (hT.str ht), hb.1, hs])
  · exact h.elim
theorem ok_extract (hr : TRel c tm a.tmps) {t : Operand} {i : Nat} (h : pureW T (.extract t i) tm k) : OpOK P (.extract t i) a c k := by
  have e := eval_rel hr t
  simp only [pureW] at h
  split at h
  · rename_i vs heq
    rw [heq] at e
    obtain ⟨us, hu, hl, hc⟩ := e.inv_tuple
    obtain ⟨v, h1, h2⟩ := getL_iff.1 h
    rw [force_iff] at h2
    have hlt : i < us.size := by rw [← hl]; exact (List.getElem?_eq_some_iff.1 h1).1
    have hg : us[i]? = some us[i] := Array.getElem?_eq_getElem hlt
    exact mk_ok h2 (hc i v _ h1 hg) (fun o ho => by simp [execOp, ho, hu, Instr.extract, hg])
  · exact h.elim
theorem ok_makeFunc (hr : TRel c tm a.tmps) {f : Fn} {x y : Array Operand} (h : pureW T (.makeFunc f x y) tm k) : OpOK P (.makeFunc f x y) a c k := by
  simp only [pureW, evalL_iff] at h
  have h1 := evals_rel (c := c) hr x.toList
  have h2 := evals_rel (c := c) hr y.toList
  refine mk_ok h (u := .func f (x.map a.eval) (y.map a.eval)) (.fn (by simp) (fun i v u g1 g2 => h1.2 i v u g1 ?_) (by simp) (fun i v u g1 g2 => h2.2 i v u g1 ?_)) (fun o ho => by simp [execOp, ho, Instr.makeFunc])
  · rw [← Array.toList_map, Array.getElem?_toList]; exact g2
  · rw [← Array.toList_map, Array.getElem?_toList]; exact g2
theorem ok_convert (hT : TOK P T) (hr : TRel c tm a.tmps) {s t : Nat} {x : Operand} (h : pureW T (.convert s t x) tm k) : OpOK P (.convert s t x) a c k := by
  have e := eval_rel hr x
  simp only [pureW] at h
  split at h
  · rename_i ti kk z p kk' n hs ht heq
    rw [heq] at e
    obtain ⟨ii, d, _, hd, _⟩ := hT.info hs
    exact mk_ok h (.mk_int c _ _) (fun o ho => by
      simp only [execOp, ho, e.inv_int, Go.convert]
      simp [run_underlying hd, run_underlying (hT.int ht), Conv.intToInt])
  · rename_i s' hs ht heq
    rw [heq] at e
    exact mk_ok h (.mk_str c _) (fun o ho => by
      simp only [execOp, ho, e.inv_str, Go.convert]
      simp [run_underlying (hT.str hs), run_underlying (hT.str ht)])
  · exact h.elim
theorem ok_unOp (hr : TRel c tm a.tmps) {op : UnOp} {t : Nat} {x : Operand} (h : pureW T (.unOp op t x) tm k) : OpOK P (.unOp op t x) a c k := by
  have e := eval_rel hr x
  simp only [pureW] at h
  split at h
  · rename_i heq
    rw [heq] at e
    exact mk_ok h (.mk_bool c _) (fun o ho => by simp [execOp, ho, e.inv_bool, Op.unary])
  · rename_i heq
    rw [heq] at e
    exact mk_ok h (.mk_int c _ _) (fun o ho => by simp [execOp, ho, e.inv_int, Op.unary, Op.intArith])
  · rename_i heq
    rw [heq] at e
    exact mk_ok h (.mk_int c _ _) (fun o ho => by simp [execOp, ho, e.inv_int, Op.unary, Op.intBits])
  · exact h.elim
theorem ok_indexAddr (hT : TOK P T) (hr : TRel c tm a.tmps) {t : Nat} {x i : Operand} (h : pureW T (.indexAddr t x i) tm k) : OpOK P (.indexAddr t x i) a c k := by
  have e := eval_rel hr x
  have ei := eval_rel hr i
  simp only [pureW] at h
  split at h
  · rename_i e' z p sz n row kk iv ht h1 h2
    rw [h1] at e
    rw [h2] at ei
    split at h
    · rename_i es he
      obtain ⟨hs, h⟩ := whenB_iff.1 h
      have hs := Nat.eq_of_beq_eq_true hs
      subst hs
      obtain ⟨hb, h⟩ := need_iff.1 h
      obtain ⟨A, kk, hu, hk⟩ := e.inv_ro
      rw [hu] at e
      obtain ⟨q, rfl, hq⟩ := e.ro_at (i := iv.toNat) (by omega)
      exact mk_ok h hq (fun o ho => by simp [execOp, ho, hu, ei.inv_int, Instr.indexAt, asIntOf, run_underlying (hT.slice ht), sizeT_ok hT he, hb])
    · exact h.elim
  · rename_i n e' z p b i0 j0 kk iv ht h1 h2
    rw [h1] at e
    rw [h2] at ei
    split at h
    · rename_i es he
      obtain ⟨hb, h⟩ := need_iff.1 h
      obtain ⟨q, hq⟩ := e.inv_ptr
      rw [hq] at e
      exact mk_ok h (e.ptr_add _) (fun o ho => by simp [execOp, ho, hq, ei.inv_int, Instr.indexAt, Instr.sureAddr, asIntOf, run_underlying (hT.arr ht), sizeT_ok hT he, hb])
    · exact h.elim
  · rename_i n e' z p sz m row i0 j0 kk iv ht h1 h2
    rw [h1] at e
    rw [h2] at ei
    split at h
    · rename_i es he
      obtain ⟨hb, h⟩ := need_iff.1 h
      obtain ⟨q, hq⟩ := e.inv_roptr
      rw [hq] at e
      exact mk_ok h (e.roptr_add _) (fun o ho => by simp [execOp, ho, hq, ei.inv_int, Instr.indexAt, Instr.sureAddr, asIntOf, run_underlying (hT.arr ht), sizeT_ok hT he, hb])
    · exact h.elim
  · exact h.elim
theorem ok_slice (hT : TOK P T) (hr : TRel c tm a.tmps) {t : Nat} {x : Operand} {lo hi : Option Operand} (h : pureW T (.slice t x lo hi none) tm k) : OpOK P (.slice t x lo hi none) a c k := by
  have e := eval_rel hr x
  simp only [pureW] at h
  split at h
  · rename_i z p s ht h1
    rw [h1] at e
    obtain ⟨l, hh, h2, h3, h4, h5⟩ := bounds_ok (P := P) (isSlice := false) hr (Nat.le_refl _) h
    exact mk_ok h4 (.mk_str c _) (fun o ho => by simp [execOp, ho, e.inv_str, Instr.sliceAt, Instr.slice, run_underlying (hT.str ht), h5])
  · rename_i e' z p sz n row ht h1
    rw [h1] at e
    split at h
    · rename_i es he
      obtain ⟨hs, h⟩ := whenB_iff.1 h
      have hs := Nat.eq_of_beq_eq_true hs
      subst hs
      obtain ⟨A, kk, hu, hk⟩ := e.inv_ro
      rw [hu] at e
      obtain ⟨l, hh, h2, h3, h4, h5⟩ := bounds_ok (P := P) (isSlice := true) hr hk h
      exact mk_ok h4 (e.ro_cut h2 h3) (fun o ho => by simp [execOp, ho, hu, Instr.sliceAt, Instr.slice, run_underlying (hT.slice ht), sizeT_ok hT he, h5])
    · exact h.elim
  · rename_i e' z p ht h1
    rw [h1] at e
    split at h
    · rename_i es he
      obtain ⟨l, hh, h2, h3, h4, h5⟩ := bounds_ok (P := P) (isSlice := true) hr (Nat.le_refl 0) h
      have hl0 : l = 0 := by omega
      have hh0 : hh = 0 := by omega
      subst hl0; subst hh0
      exact mk_ok h4 (.closed .nilslice) (fun o ho => by simp [execOp, ho, e.inv_nilslice, Instr.sliceAt, Instr.slice, run_underlying (hT.slice ht), sizeT_ok hT he, h5])
    · exact h.elim
  · exact h.elim
theorem pure_ok (hT : TOK P T) (hr : TRel c tm a.tmps) {op : Op} (h : pureW T op tm k) : OpOK P op a c k := by
  cases op with
  | move x => exact ok_move hr (by simpa [pureW, force_iff] using h)
  | assign x => exact ok_assign hr (by simpa [pureW, force_iff] using h)
  | pick p x y =>
    simp only [pureW] at h
    split at h
    · rename_i t ht; exact ok_pick hr ht h
    · exact h.elim
  | build t parts => exact ok_build hT hr h
  | nilCheck x => exact ok_nilCheck hr h
  | binOp op t x y t' => exact ok_binOp hT hr h
  | unOp op t x => exact ok_unOp hr h
  | convert s t x => exact ok_convert hT hr h
  | fieldAddr t x f => exact ok_fieldAddr hT hr h
  | field t x f => exact ok_field hT hr h
  | index t x i => exact ok_index hT hr h
  | indexAddr t x i => exact ok_indexAddr hT hr h
  | extract t i => exact ok_extract hr h
  | makeFunc f x y => exact ok_makeFunc hr h
  | slice t x lo hi m =>
    cases m with
    | none => exact ok_slice hT hr h
    | some m => simp [pureW] at h
  | call cl =>
    obtain ⟨callee, args, ts⟩ := cl
    cases callee with
    | builtin b =>
      cases b with
      | len =>
        simp only [pureW] at h
        split at h
        · rename_i x t hx ht
          exact lenW_ok hT (eval_rel hr x) h (by rw [← Array.toArray_toList (xs := args), hx]) (by rw [← Array.toArray_toList (xs := ts), ht])
        · exact h.elim
      | min => exact ok_minmax hr false h
      | max => exact ok_minmax hr true h
      | _ => simp [pureW] at h
    | _ => simp [pureW] at h
  | _ => simp [pureW] at h
end
end Go.E
namespace Go.E
section
variable {P : Program} {T : TEnv} {c : Cx} {a : Act} {tm : List AVal} {k : AVal → Prop}
theorem load_seg (hT : TOK P T) {t : Nat} {ti : TI} (ht : T[t]? = some ti) {r off : Nat} {cs : Array Value} {t' : TypeId} {fr : Nat × Nat} (hb : c.w.heap[r]? = some (.cells cs t' fr))
    {l : List AVal} (hl : off + l.length ≤ cs.size) (hrel : ∀ (j : Nat) (v : AVal) (u : Value), l[j]? = some v → cs[off + j]? = some u → VRel c v u) {j : Nat} (h : partW ti l j k) :
    ∃ v u, k v ∧ VRel c v u ∧ (loadVar t ⟨r, off + j, none⟩).run P c.w = .ok u c.w := by
  unfold partW at h
  cases hag : ti.isAgg with
  | true =>
    simp only [hag] at h
    obtain ⟨_, h2, h3⟩ := dropTakeL_iff h
    have hlen : ((cs.toList.drop (off + j)).take ti.size).length = ti.size := by simp; omega
    refine ⟨_, .agg ((cs.toList.drop (off + j)).take ti.size).toArray, h3, ?_, ?_⟩
    · refine CRel.agg ⟨by simp; omega, fun i v u h1 h4 => ?_⟩
      simp only [List.getElem?_take, List.getElem?_drop] at h1 h4
      split at h1
      · rename_i hi
        rw [if_pos hi, Array.getElem?_toList] at h4
        exact hrel _ v u h1 (by rw [← Nat.add_assoc]; exact h4)
      · cases h1
    · have := run_loadCells_list (P := P) c.w ⟨r, off + j, none⟩ ((cs.toList.drop (off + j)).take ti.size) (fun q v hv => by
        rw [add_none, cell_of_row c.w r _ cs t' fr hb]
        simp only [List.getElem?_take, List.getElem?_drop] at hv
        split at hv
        · rwa [Array.getElem?_toList] at hv
        · cases hv)
      rw [hlen] at this
      simp [loadVar, hT.isAgg ht, hag, hT.size ht, this]
  | false =>
    simp only [hag] at h
    obtain ⟨v, h1, h2⟩ := getL_iff.1 h
    rw [force_iff] at h2
    have hlt : off + j < cs.size := by have := (List.getElem?_eq_some_iff.1 h1).1; omega
    have hu : cs[off + j]? = some cs[off + j] := Array.getElem?_eq_getElem hlt
    refine ⟨v, _, h2, hrel j v _ h1 hu, ?_⟩
    have hc : c.w.cell? ⟨r, off + j, none⟩ = some cs[off + j] := by rw [cell_of_row c.w r _ cs t' fr hb]; exact hu
    simp [loadVar, hT.isAgg ht, hag, run_load, hc]
theorem HRel.at_ (h : HRel c) {b : Nat} {blk : Blk} (hb : c.H[b]? = some blk) (hl : blk.live = true) {r o : Nat} (hf : c.φ b = some (r, o)) : c.X r ∧ Holds c r o blk := by
  rcases h.holds b blk hb hl with ⟨_, h0⟩ | ⟨r', o', h1, h2, h3⟩
  · rw [h0] at hf; cases hf
  · rw [hf] at h1; cases h1; exact ⟨h2, h3⟩
theorem VRel.ptr_live {x : AAddr} {p : Addr} (h : VRel c (.ptr x) (.pointer (some p))) {blk : Blk} (hb : c.H[x.blk]? = some blk) (hl : blk.live = true) : ∃ r o, c.φ x.blk = some (r, o) ∧ p = ⟨r, o + lin blk x, none⟩ := by
  cases h with
  | closed h => cases h
  | ptr hb' h => rw [hb] at hb'; cases hb'; exact h hl
theorem VRel.slice_live {x : AAddr} {n kk : Nat} {A : Option Addr} (h : VRel c (.slice x n) (.slice A n kk)) {blk : Blk} (hb : c.H[x.blk]? = some blk) (hl : blk.live = true) :
    (n = 0 ∧ kk = 0) ∨ ∃ r o, c.φ x.blk = some (r, o) ∧ A = some ⟨r, o + lin blk x, none⟩ ∧ (blk.grows = true → Room c.w r (o + lin blk x + kk * stride blk)) := by
  cases h with
  | closed h => cases h
  | slice hb' hk h => rw [hb] at hb'; cases hb'; exact h hl
theorem ok_load (hT : TOK P T) (hr : TRel c tm a.tmps) (hH : HRel c) {t : Nat} {x : Operand} (h : readW T (.load t x) tm c.H k) : OpOK P (.load t x) a c k := by
  have e := eval_rel hr x
  simp only [readW] at h
  split at h
  · rename_i b i j ti heq ht
    rw [heq] at e
    obtain ⟨p, hp⟩ := e.inv_ptr
    rw [hp] at e
    split at h
    · rename_i cs hb
      obtain ⟨r, o, hf, rfl⟩ := e.ptr_live hb rfl
      obtain ⟨_, cells, t', fr, hw, _, hle, hrel⟩ := hH.at_ hb rfl hf
      obtain ⟨v, u, g1, g2, g3⟩ := load_seg hT ht hw hle hrel h
      exact mk_ok g1 g2 (fun o' ho => by simp [execOp, ho, hp, Instr.loadAt, Instr.sureAddr, lin, g3])
    · rename_i kk l hb
      obtain ⟨r, o, hf, rfl⟩ := e.ptr_live hb rfl
      obtain ⟨_, cells, t', fr, hw, _, hle, hrel⟩ := hH.at_ hb rfl hf
      obtain ⟨hag, h⟩ := whenB_iff.1 h
      obtain ⟨hlt, h⟩ := need_iff.1 h
      have hag : ti.isAgg = false := by simpa using hag
      have hc := hrel (i + j) l[i + j] (List.getElem?_eq_getElem hlt)
      have hc' : c.w.cell? ⟨r, o + (i + j), none⟩ = some (.int kk l[i + j]) := by rw [cell_of_row c.w r _ cells t' fr hw]; exact hc
      rw [List.getD_eq_getElem?_getD, List.getElem?_eq_getElem hlt] at h
      exact mk_ok h (.mk_int c _ _) (fun o' ho => by simp [execOp, ho, hp, Instr.loadAt, Instr.sureAddr, lin, loadVar, hT.isAgg ht, hag, run_load, hc'])
    · rename_i sz n f hb
      obtain ⟨r, o, hf, rfl⟩ := e.ptr_live hb rfl
      obtain ⟨_, cells, t', fr, hw, _, hle, hrel⟩ := hH.at_ hb rfl hf
      obtain ⟨hlt, h⟩ := need_iff.1 h
      obtain ⟨hlen, hrel⟩ := hrel i hlt
      have hsz : i * sz + sz ≤ n * sz := by rw [← Nat.succ_mul]; exact Nat.mul_le_mul_right _ hlt
      obtain ⟨v, u, g1, g2, g3⟩ := load_seg hT ht hw (off := o + i * sz) (by rw [hlen]; omega) (fun j v u h1 h2 => .closed (hrel j v u h1 h2)) h
      exact mk_ok g1 g2 (fun o' ho => by simp [execOp, ho, hp, Instr.loadAt, Instr.sureAddr, lin, ← Nat.add_assoc, g3])
    · exact h.elim
  · rename_i sz n row i j ti heq ht
    rw [heq] at e
    obtain ⟨p, hp⟩ := e.inv_roptr
    rw [hp] at e
    cases e with
    | closed h => cases h
    | roptr hi hx hb hlen hin hrel =>
      obtain ⟨v, u, g1, g2, g3⟩ := load_seg hT ht hb (by rw [hlen i hi]; exact hin i hi) (fun j v u h1 h2 => .closed (hrel i hi j v u h1 h2)) h
      exact mk_ok g1 g2 (fun o' ho => by simp [execOp, ho, hp, Instr.loadAt, Instr.sureAddr, g3])
  · exact h.elim
theorem ok_indexOwn (hT : TOK P T) (hr : TRel c tm a.tmps) {t : Nat} {x i : Operand} (h : readW T (.indexAddr t x i) tm c.H k) : OpOK P (.indexAddr t x i) a c k := by
  have e := eval_rel hr x
  have ei := eval_rel hr i
  simp only [readW] at h
  split at h
  · rename_i e' z p b i0 j0 n kk iv ht h1 h2
    rw [h1] at e
    rw [h2] at ei
    obtain ⟨A, cap, hu, hk⟩ := e.inv_slice
    rw [hu] at e
    have go : ∀ {es : Nat} {blk : Blk} {x' : AAddr}, sizeT T e' = some es → c.H[b]? = some blk → blk.live = true → x'.blk = b → lin blk x' = lin blk ⟨b, i0, j0⟩ + iv.toNat * es → (0 ≤ iv ∧ iv < n) → k (.ptr x') → OpOK P (.indexAddr t x i) a c k := by
      intro es blk x' he hb hl hx' hlin hbd hk'
      rcases e.slice_live hb hl with ⟨h0, _⟩ | ⟨r, o, hf, hA, _⟩
      · omega
      · subst hA
        refine mk_ok hk' (u := .pointer (some ((⟨r, o + lin blk ⟨b, i0, j0⟩, none⟩ : Addr).add (iv.toNat * es)))) (.ptr (by rw [hx']; exact hb) fun _ => ⟨r, o, by rw [hx']; exact hf, by rw [add_none, hlin, Nat.add_assoc]⟩) (fun o' ho => ?_)
        simp [execOp, ho, hu, ei.inv_int, Instr.indexAt, asIntOf, run_underlying (hT.slice ht), sizeT_ok hT he, hbd]
    split at h
    · rename_i es cs he hb
      obtain ⟨hbd, h⟩ := need_iff.1 h
      exact go he hb rfl rfl (by simp [lin]; omega) hbd h
    · rename_i es kk' l he hb
      obtain ⟨hs, h⟩ := whenB_iff.1 h
      have hs := Nat.eq_of_beq_eq_true hs
      subst hs
      obtain ⟨hbd, h⟩ := need_iff.1 h
      exact go he hb rfl rfl (by simp [lin]; omega) hbd h
    · rename_i es sz n' f he hb
      obtain ⟨hs, h'⟩ := whenB_iff.1 h
      have hs := Nat.eq_of_beq_eq_true hs
      obtain ⟨hbd, h''⟩ := need_iff.1 h'
      exact go he hb rfl rfl (by simp only [lin, Nat.add_mul, hs]; omega) hbd h''
    · exact h.elim
  · exact pure_ok hT hr h
theorem ok_sliceOwn (hT : TOK P T) (hr : TRel c tm a.tmps) {t : Nat} {x : Operand} {lo hi : Option Operand} (h : readW T (.slice t x lo hi none) tm c.H k) : OpOK P (.slice t x lo hi none) a c k := by
  have e := eval_rel hr x
  simp only [readW] at h
  split at h
  · rename_i e' z p b i0 j0 n ht h1
    rw [h1] at e
    obtain ⟨A, cap, hu, hk⟩ := e.inv_slice
    rw [hu] at e
    have go : ∀ {es : Nat} {blk : Blk} {x' : Nat → AAddr}, sizeT T e' = some es → c.H[b]? = some blk → blk.live = true → (∀ l, (x' l).blk = b) → (∀ l, lin blk (x' l) = lin blk ⟨b, i0, j0⟩ + l * es) → (blk.grows = true → stride blk = es) →
        boundsW n (lo.map (evalO tm)) (hi.map (evalO tm)) (fun l h => k (.slice (x' l) (h - l))) → OpOK P (.slice t x lo hi none) a c k := by
      intro es blk x' he hb hl hx' hlin hst h
      obtain ⟨l, hh, h2, h3, h4, h5⟩ := bounds_ok (P := P) (isSlice := true) hr hk h
      refine mk_ok h4 (u := .slice (if cap = l then A else A.map (·.add (l * es))) (hh - l) (cap - l)) (.slice (by rw [hx']; exact hb) (by omega) fun _ => ?_) (fun o' ho => ?_)
      · rcases e.slice_live hb hl with ⟨h0, h0'⟩ | ⟨r, o, hf, hA, hroom⟩
        · exact .inl ⟨by omega, by omega⟩
        · by_cases hcl : cap = l
          · exact .inl ⟨by omega, by omega⟩
          · refine .inr ⟨r, o, by rw [hx']; exact hf, ?_, fun hg => ?_⟩
            · rw [if_neg hcl, hA, Option.map_some, add_none, hlin, Nat.add_assoc]
            · have := hroom hg
              rw [hst hg] at this
              rw [hlin, hst hg]
              obtain ⟨cs, t, fr, q1, q2⟩ := this
              refine ⟨cs, t, fr, q1, ?_⟩
              have hm : l * es + (cap - l) * es = cap * es := by rw [← Nat.add_mul]; congr 1; omega
              omega
      · simp [execOp, ho, hu, Instr.sliceAt, Instr.slice, run_underlying (hT.slice ht), sizeT_ok hT he, h5]
    split at h
    · rename_i es cs he hb
      exact go (x' := fun l => ⟨b, i0, j0 + l * es⟩) he hb rfl (fun _ => rfl) (fun l => by simp [lin]; omega) (fun hg => by simp [Blk.grows] at hg) h
    · rename_i es kk' l he hb
      obtain ⟨hs, h⟩ := whenB_iff.1 h
      have hs := Nat.eq_of_beq_eq_true hs
      subst hs
      exact go (x' := fun l => ⟨b, i0 + l, j0⟩) he hb rfl (fun _ => rfl) (fun l => by simp [lin]; omega) (fun _ => rfl) h
    · rename_i es sz n' f he hb
      obtain ⟨hs, h'⟩ := whenB_iff.1 h
      have hs := Nat.eq_of_beq_eq_true hs
      exact go (x' := fun l => ⟨b, i0 + l, j0⟩) he hb rfl (fun _ => rfl) (fun l => by simp only [lin, Nat.add_mul, hs]; omega) (fun _ => hs.symm) h'
    · exact h.elim
  · rename_i n e' z p b i0 j0 ht h1
    rw [h1] at e
    obtain ⟨q, hq⟩ := e.inv_ptr
    rw [hq] at e
    split at h
    · rename_i es cs he hb
      obtain ⟨l, hh, h2, h3, h4, h5⟩ := bounds_ok (P := P) (isSlice := false) hr (Nat.le_refl n) h
      obtain ⟨r, o, hf, rfl⟩ := e.ptr_live hb rfl
      refine mk_ok h4 (u := .slice (some (if n = l then ⟨r, o + lin (.cells cs) ⟨b, i0, j0⟩, none⟩ else (⟨r, o + lin (.cells cs) ⟨b, i0, j0⟩, none⟩ : Addr).add (l * es))) (hh - l) (n - l)) (.slice (blk := .cells cs) hb (by omega) fun _ => ?_) (fun o' ho => ?_)
      · by_cases hcl : n = l
        · exact .inl ⟨by omega, by omega⟩
        · exact .inr ⟨r, o, hf, by rw [if_neg hcl, add_none]; simp [lin, Nat.add_assoc], fun hg => by simp [Blk.grows] at hg⟩
      · simp [execOp, ho, hq, Instr.sliceAt, Instr.sureAddr, run_underlying (hT.arr ht), sizeT_ok hT he, h5]
    · exact h.elim
  · exact pure_ok hT hr h
theorem ok_toArray (hT : TOK P T) (hr : TRel c tm a.tmps) {t : TypeId} {x : Operand} (h : readW T (.sliceToArrayPointer t x) tm c.H k) : OpOK P (.sliceToArrayPointer t x) a c k := by
  have e := eval_rel hr x
  simp only [readW] at h
  split at h
  · rename_i m e' z p b i0 j0 n hti h1
    rw [h1] at e
    obtain ⟨A, cap, hu, hk⟩ := e.inv_slice
    rw [hu] at e
    split at h
    · rename_i cs hb
      obtain ⟨hbd, h⟩ := need_iff.1 h
      rcases e.slice_live hb rfl with ⟨h0, _⟩ | ⟨r, q, hφ, hA, _⟩
      · omega
      · subst hA
        refine mk_ok h (u := .pointer (some ⟨r, q + lin (.cells cs) ⟨b, i0, j0⟩, none⟩)) (.ptr hb fun _ => ⟨r, q, hφ, rfl⟩) (fun o' ho' => ?_)
        simp [execOp, ho', hu, Instr.arrayAt, run_underlying (hT.arr hti), show ¬ n < m from by omega]
    · exact h.elim
  · exact h.elim
theorem read_ok (hT : TOK P T) (hr : TRel c tm a.tmps) (hH : HRel c) {op : Op} (h : readW T op tm c.H k) : OpOK P op a c k := by
  cases op with
  | load t x => exact ok_load hT hr hH h
  | indexAddr t x i => exact ok_indexOwn hT hr h
  | slice t x lo hi m =>
    cases m with
    | none => exact ok_sliceOwn hT hr h
    | some m => exact pure_ok hT hr h
  | sliceToArrayPointer t x => exact ok_toArray hT hr h
  | _ => exact pure_ok hT hr h
end
end Go.E
namespace Go.E
section
variable {P : Program} {T : TEnv} {c : Cx}
theorem splice_get {α : Type} (l new : List α) (i q : Nat) (h : i + new.length ≤ l.length) :
    (l.take i ++ new ++ l.drop (i + new.length))[q]? = if i ≤ q ∧ q < i + new.length then new[q - i]? else l[q]? := by
  have hl : (l.take i).length = i := by rw [List.length_take]; omega
  by_cases h1 : q < i
  · rw [if_neg (by omega), List.append_assoc, List.getElem?_append_left (by omega), List.getElem?_take, if_pos h1]
  · by_cases h2 : q < i + new.length
    · rw [if_pos (by omega), List.append_assoc, List.getElem?_append_right (by omega), hl, List.getElem?_append_left (by omega)]
    · rw [if_neg (by omega), List.getElem?_append_right (by simp; omega), List.getElem?_drop]
      congr 1
      simp
      omega
theorem splice_len {α : Type} (l new : List α) (i : Nat) (h : i + new.length ≤ l.length) : (l.take i ++ new ++ l.drop (i + new.length)).length = l.length := by
  simp
  omega
def splA (cs : Array Value) (off : Nat) (vs : List Value) : Array Value := (cs.toList.take off ++ vs ++ cs.toList.drop (off + vs.length)).toArray
theorem splA_size {cs : Array Value} {off : Nat} {vs : List Value} (h : off + vs.length ≤ cs.size) : (splA cs off vs).size = cs.size := by
  have := splice_len cs.toList vs off (by simpa using h)
  simpa [splA] using this
theorem splA_get {cs : Array Value} {off : Nat} {vs : List Value} (h : off + vs.length ≤ cs.size) (q : Nat) : (splA cs off vs)[q]? = if off ≤ q ∧ q < off + vs.length then vs[q - off]? else cs[q]? := by
  have := splice_get cs.toList vs off q (by simpa using h)
  simp only [Array.getElem?_toList] at this
  unfold splA
  rw [List.getElem?_toArray]
  exact this
def setBlk (w : World) (r : Nat) (o : Obj) : World := { w with heap := w.heap.setIfInBounds r o }
theorem setBlk_same {w : World} {r : Nat} {o : Obj} (h : r < w.heap.size) : (setBlk w r o).heap[r]? = some o := by
  simp [setBlk, Array.getElem?_setIfInBounds_self, h]
theorem setBlk_other {w : World} {r r' : Nat} {o : Obj} (h : r ≠ r') : (setBlk w r o).heap[r']? = w.heap[r']? := by
  simp [setBlk, Array.getElem?_setIfInBounds_ne h]
theorem setBlk_size (w : World) (r : Nat) (o : Obj) : (setBlk w r o).heap.size = w.heap.size := by simp [setBlk]
theorem setBlk_twice (w : World) (r : Nat) (o o' : Obj) : setBlk (setBlk w r o) r o' = setBlk w r o' := by
  unfold setBlk
  congr 1
  apply Array.ext_getElem?
  intro i
  simp only [Array.getElem?_setIfInBounds, Array.size_setIfInBounds]
  split <;> simp_all
def oneU : Value → Bool
  | .agg _ | .tuple _ => false
  | _ => true
theorem one_rel {v : AVal} {u : Value} (h : VRel c v u) (hv : v.one = true) : oneU u = true := by
  cases h with
  | closed h => cases h <;> rfl
  | any => simp [AVal.one] at hv
  | agg => simp [AVal.one] at hv
  | tuple => simp [AVal.one] at hv
  | ptr => rfl
  | slice => rfl
  | roptr => rfl
  | fn => rfl
theorem allOne_mem {cs : List AVal} (h : allOne cs = true) : ∀ v ∈ cs, v.one = true := by
  induction cs with
  | nil => simp
  | cons x r ih =>
    unfold allOne at h
    cases hx : x.one with
    | true =>
      simp only [hx] at h
      intro v hv
      rcases List.mem_cons.1 hv with rfl | hv
      · exact hx
      · exact ih h v hv
    | false => simp [hx] at h
theorem allOne_rel {cs : List AVal} {us : List Value} (h : CRel c cs us) (ho : allOne cs = true) : ∀ u ∈ us, oneU u = true := by
  intro u hu
  obtain ⟨i, hi, rfl⟩ := List.mem_iff_getElem.1 hu
  have hi' : i < cs.length := by rw [h.1]; exact hi
  exact one_rel (h.2 i cs[i] us[i] (List.getElem?_eq_getElem hi') (List.getElem?_eq_getElem hi)) (allOne_mem ho _ (List.getElem_mem hi'))
theorem run_store1 {w : World} {r off : Nat} {v : Value} {cs : Array Value} {t : TypeId} {fr : Nat × Nat} (hb : w.heap[r]? = some (.cells cs t fr)) (ho : off < cs.size) (hf : ¬ (fr.1 ≤ off ∧ off < fr.2)) (hv : oneU v = true) :
    (store ⟨r, off, none⟩ v).run P w = .ok () (setBlk w r (.cells (cs.setIfInBounds off v) t fr)) := by
  have hc : w.cell? ⟨r, off, none⟩ = some cs[off] := by rw [cell_of_row w r off cs t fr hb]; exact Array.getElem?_eq_getElem ho
  have hz : w.frozen? ⟨r, off, none⟩ = false := by
    simp only [World.frozen?, hb]
    simpa using hf
  have hs : w.setCell ⟨r, off, none⟩ v = setBlk w r (.cells (cs.setIfInBounds off v) t fr) := by
    unfold World.setCell setBlk
    congr 1
    apply Array.ext_getElem?
    intro i
    have hr := lt_of_heap hb
    rw [Array.getElem?_modify, Array.getElem?_setIfInBounds]
    by_cases hi : r = i
    · subst hi
      have hg := (Array.getElem?_eq_some_iff.1 hb).2
      simp [hr, hg]
    · simp [hi]
  unfold store
  cases v <;> simp only [oneU, Bool.false_eq_true] at hv <;> simp only [Sem.run, hc, hz, Bool.false_eq_true, if_false, hs]
theorem run_stores {r off : Nat} {t : TypeId} {fr : Nat × Nat} : ∀ (vs : List Value) (i : Nat) (w : World) (cs : Array Value), w.heap[r]? = some (.cells cs t fr) → off + i + vs.length ≤ cs.size → (∀ j, j < cs.size → ¬ (fr.1 ≤ j ∧ j < fr.2)) →
    (∀ v ∈ vs, oneU v = true) → (storeCells ⟨r, off, none⟩ vs i).run P w = .ok () (if vs = [] then w else setBlk w r (.cells (splA cs (off + i) vs) t fr)) := by
  intro vs
  induction vs with
  | nil => intro i w cs _ _ _ _; simp [storeCells]
  | cons v vs ih =>
    intro i w cs hb hl hf hv
    simp only [List.length_cons] at hl
    rw [if_neg (List.cons_ne_nil _ _)]
    unfold storeCells
    rw [Sem.run_bind, add_none, run_store1 hb (by omega) (hf _ (by omega)) (hv v (List.mem_cons_self ..)), Result.andThen_ok]
    have hr := lt_of_heap hb
    have hb' := setBlk_same (w := w) (o := .cells (cs.setIfInBounds (off + i) v) t fr) hr
    rw [ih (i + 1) _ _ hb' (by simp; omega) (by simpa using hf) (fun u hu => hv u (List.mem_cons_of_mem _ hu))]
    have hsp : splA (cs.setIfInBounds (off + i) v) (off + (i + 1)) vs = splA cs (off + i) (v :: vs) := by
      apply Array.ext_getElem?
      intro q
      rw [splA_get (by simp; omega), splA_get (by simp; omega)]
      simp only [List.length_cons]
      by_cases h1 : off + (i + 1) ≤ q ∧ q < off + (i + 1) + vs.length
      · rw [if_pos h1, if_pos (by omega), show q - (off + i) = (q - (off + (i + 1))) + 1 by omega, List.getElem?_cons_succ]
      · rw [if_neg h1]
        by_cases h2 : q = off + i
        · subst h2
          rw [if_pos (by omega), Nat.sub_self, List.getElem?_cons_zero, Array.getElem?_setIfInBounds_self, if_pos (by omega)]
        · rw [if_neg (by omega), Array.getElem?_setIfInBounds_ne (by omega)]
    by_cases hn : vs = []
    · subst hn
      rw [if_pos rfl, ← hsp]
      congr 2
      congr 1
      apply Array.ext_getElem?
      intro q
      rw [splA_get (by simp; omega), if_neg (by simp <;> omega)]
    · rw [if_neg hn, setBlk_twice, hsp]
theorem Holds.mono {c' : Cx} (h : Fr c c') (hX : ∀ r, Img c r → c.X r) {r o : Nat} {blk : Blk} (he : c'.w.heap[r]? = c.w.heap[r]?) (hh : Holds c r o blk) : Holds c' r o blk := by
  cases blk with
  | dead => trivial
  | cells l =>
    obtain ⟨cs, t, fr, h1, h2, h3, h4⟩ := hh
    exact ⟨cs, t, fr, he.trans h1, h2, h3, fun j v u a b => (h4 j v u a b).mono h hX⟩
  | ints k l =>
    obtain ⟨cs, t, fr, h1, h2, h3, h4⟩ := hh
    exact ⟨cs, t, fr, he.trans h1, h2, h3, h4⟩
  | rows sz n f =>
    obtain ⟨cs, t, fr, h1, h2, h3, h4⟩ := hh
    exact ⟨cs, t, fr, he.trans h1, h2, h3, fun i hi => ⟨(h4 i hi).1, fun j v u a b => ((h4 i hi).2 j v u a b).mono (h.quiet hX)⟩⟩
  | iter s pos => exact ⟨hh.1, he.trans hh.2⟩
  | sb l => exact holds_sb (h.quiet hX) he hh
theorem Holds.lt {r o : Nat} {blk : Blk} (hl : blk.live = true) (hh : Holds c r o blk) : r < c.w.heap.size := by
  cases blk with
  | dead => simp [Blk.live] at hl
  | cells l => obtain ⟨cs, t, fr, h1, _⟩ := hh; exact lt_of_heap h1
  | ints k l => obtain ⟨cs, t, fr, h1, _⟩ := hh; exact lt_of_heap h1
  | rows sz n f => obtain ⟨cs, t, fr, h1, _⟩ := hh; exact lt_of_heap h1
  | iter s pos => exact lt_of_heap hh.2
  | sb l => obtain ⟨_, T, e, _, h1 | h1, _⟩ := hh <;> (obtain ⟨_, v, h2, _⟩ := h1; exact lt_of_heap h2)
def Cx.push (c : Cx) (o : Obj) (blk : Blk) : Cx :=
  { φ := fun i => if i = c.H.length then some (c.w.heap.size, 0) else c.φ i, X := fun r => c.X r ∨ r = c.w.heap.size, H := c.H ++ [blk], w := c.w.alloc o }
theorem Cx.push_fr (c : Cx) (o : Obj) (blk : Blk) : Fr c (c.push o blk) where
  os := rfl
  tape := rfl
  output := rfl
  size := by simp [Cx.push]
  keep := fun r hr _ => heap_alloc_old c.w o hr
  shape := fun r hr => by simp [World.shape?, Cx.push, heap_alloc_old c.w o hr]
  X := fun r hr => by simp only [Cx.push]; constructor
                      · rintro (h | h)
                        · exact h
                        · omega
                      · exact .inl
  blocks := fun b blk' hb => by
    have hlt := (List.getElem?_eq_some_iff.1 hb).1
    exact ⟨blk', by simp only [Cx.push]; rw [List.getElem?_append_left hlt]; exact hb, rfl, by simp only [Cx.push]; rw [if_neg (by omega)]⟩
  img := fun b blk' r o' hle hb hl hf => by
    have hlt := (List.getElem?_eq_some_iff.1 hb).1
    simp only [Cx.push, List.length_append, List.length_cons, List.length_nil] at hlt
    have hbe : b = c.H.length := by omega
    simp only [Cx.push, hbe, if_true, Option.some.injEq, Prod.mk.injEq] at hf
    omega
theorem Cx.push_heap {c : Cx} (h : HRel c) (o : Obj) (blk : Blk) (hh : Holds (c.push o blk) c.w.heap.size 0 blk) : HRel (c.push o blk) where
  holds := fun b blk' hb hl => by
    have hlt := (List.getElem?_eq_some_iff.1 hb).1
    simp only [Cx.push, List.length_append, List.length_cons, List.length_nil] at hlt
    by_cases hbe : b = c.H.length
    · subst hbe
      simp only [Cx.push, List.getElem?_append_right (Nat.le_refl _), Nat.sub_self, List.getElem?_cons_zero, Option.some.injEq] at hb
      subst hb
      exact .inr ⟨c.w.heap.size, 0, by simp [Cx.push], .inr rfl, hh⟩
    · have hb' : c.H[b]? = some blk' := by simp only [Cx.push] at hb; rwa [List.getElem?_append_left (by omega)] at hb
      rcases h.holds b blk' hb' hl with ⟨h1, h2⟩ | ⟨r, o', h1, h2, h3⟩
      · exact .inl ⟨h1, by simp only [Cx.push]; rw [if_neg hbe]; exact h2⟩
      · exact .inr ⟨r, o', by simp only [Cx.push]; rw [if_neg hbe]; exact h1, .inl h2, h3.mono (c.push_fr o blk) h.img (heap_alloc_old c.w o (h3.lt hl))⟩
  small := fun r hr => by
    have : (c.push o blk).w.heap.size = c.w.heap.size + 1 := by simp [Cx.push]
    rcases hr with hr | hr
    · have := h.small r hr; omega
    · omega
  inj := fun b b' blk1 blk2 r o1 o2 h1 l1 h2 l2 f1 f2 => by
    have old : ∀ {b : Nat} {blk' : Blk} {r o' : Nat}, b ≠ c.H.length → (c.push o blk).H[b]? = some blk' → blk'.live = true → (c.push o blk).φ b = some (r, o') → c.H[b]? = some blk' ∧ c.φ b = some (r, o') ∧ r < c.w.heap.size := by
      intro b blk' r o' hne hb hl hf
      have hlt := (List.getElem?_eq_some_iff.1 hb).1
      simp only [Cx.push, List.length_append, List.length_cons, List.length_nil] at hlt
      simp only [Cx.push] at hb hf
      rw [List.getElem?_append_left (by omega)] at hb
      rw [if_neg hne] at hf
      exact ⟨hb, hf, (h.at_ hb hl hf).2.lt hl⟩
    have new : ∀ {r o' : Nat}, (c.push o blk).φ c.H.length = some (r, o') → r = c.w.heap.size := by
      intro r o' hf
      simp only [Cx.push, if_true, Option.some.injEq, Prod.mk.injEq] at hf
      exact hf.1.symm
    by_cases e1 : b = c.H.length
    · by_cases e2 : b' = c.H.length
      · rw [e1, e2]
      · have := old e2 h2 l2 f2
        rw [e1] at f1
        have := new f1
        omega
    · by_cases e2 : b' = c.H.length
      · have := old e1 h1 l1 f1
        rw [e2] at f2
        have := new f2
        omega
      · obtain ⟨g1, g2, _⟩ := old e1 h1 l1 f1
        obtain ⟨g3, g4, _⟩ := old e2 h2 l2 f2
        exact h.inj b b' _ _ r o1 o2 g1 l1 g3 l2 g2 g4
def Cx.more (c : Cx) (o : Obj) : Cx := { c with w := c.w.alloc o }
theorem Cx.more_fr (c : Cx) (o : Obj) : Fr c (c.more o) where
  os := rfl
  tape := rfl
  output := rfl
  size := by simp [Cx.more]
  keep := fun r hr _ => heap_alloc_old c.w o hr
  shape := fun r hr => by simp [World.shape?, Cx.more, heap_alloc_old c.w o hr]
  X := fun _ _ => Iff.rfl
  blocks := fun b blk hb => ⟨blk, hb, rfl, rfl⟩
  img := fun b blk _ _ hle hb _ _ => by
    have hlt := (List.getElem?_eq_some_iff.1 hb).1
    simp only [Cx.more] at hlt
    omega
theorem Cx.more_heap {c : Cx} (h : HRel c) (o : Obj) : HRel (c.more o) where
  holds := fun b blk hb hl => by
    rcases h.holds b blk hb hl with h0 | ⟨r, o', h1, h2, h3⟩
    · exact .inl h0
    · exact .inr ⟨r, o', h1, h2, h3.mono (c.more_fr o) h.img (heap_alloc_old c.w o (h3.lt hl))⟩
  small := fun r hr => by
    have : (c.more o).w.heap.size = c.w.heap.size + 1 := by simp [Cx.more]
    have := h.small r hr
    omega
  inj := h.inj
def Cx.put (c : Cx) (b : Nat) (blk : Blk) (r : Nat) (o : Obj) : Cx := { c with H := c.H.set b blk, w := setBlk c.w r o }
theorem Cx.put_fr {c : Cx} {b : Nat} {blk0 blk : Blk} {r o : Nat} {ob ob0 : Obj} (hb : c.H[b]? = some blk0) (hk : blk.kind = blk0.kind) (hl : blk0.live = true) (hf : c.φ b = some (r, o)) (hr : c.w.heap[r]? = some ob0)
    (hs : (match ob0 with | .cells cs t _ => some (t, cs.size) | _ => none) = (match ob with | .cells cs t _ => some (t, cs.size) | _ => none)) : Fr c (c.put b blk r ob) where
  os := rfl
  tape := rfl
  output := rfl
  size := by simp [Cx.put, setBlk_size]
  keep := fun r' hr' hn => setBlk_other fun e => hn (e ▸ ⟨b, blk0, o, hb, hl, hf⟩)
  shape := fun r' hr' => by
    by_cases e : r = r'
    · subst e
      simp only [World.shape?, Cx.put, setBlk_same hr', hr]
      cases ob <;> cases ob0 <;> simp_all
    · simp [World.shape?, Cx.put, setBlk_other e]
  X := fun _ _ => Iff.rfl
  blocks := fun b' blk' hb' => by
    have hlt := (List.getElem?_eq_some_iff.1 hb').1
    by_cases e : b = b'
    · subst e
      rw [hb] at hb'
      cases hb'
      exact ⟨blk, by simp only [Cx.put]; rw [List.getElem?_set_self hlt], hk, rfl⟩
    · exact ⟨blk', by simp only [Cx.put]; rw [List.getElem?_set_ne e]; exact hb', rfl, rfl⟩
  img := fun b' blk' r' o' hle hb' _ _ => by
    have hlt := (List.getElem?_eq_some_iff.1 hb').1
    simp only [Cx.put, List.length_set] at hlt
    omega
theorem Cx.put_heap {c : Cx} (h : HRel c) {b : Nat} {blk0 blk : Blk} {r o : Nat} {ob : Obj} (hb : c.H[b]? = some blk0) (hl0 : blk0.live = true) (hl : blk.live = true) (hf : c.φ b = some (r, o)) (hfr : Fr c (c.put b blk r ob))
    (hh : Holds (c.put b blk r ob) r o blk) : HRel (c.put b blk r ob) := by
  have hlt := (List.getElem?_eq_some_iff.1 hb).1
  have hat := h.at_ hb hl0 hf
  have back : ∀ {b' : Nat} {blk' : Blk}, (c.put b blk r ob).H[b']? = some blk' → blk'.live = true → ∃ blk'', c.H[b']? = some blk'' ∧ blk''.live = true := by
    intro b' blk' hb' hl'
    simp only [Cx.put] at hb'
    by_cases e : b = b'
    · subst e; exact ⟨blk0, hb, hl0⟩
    · rw [List.getElem?_set_ne e] at hb'; exact ⟨blk', hb', hl'⟩
  constructor
  · intro b' blk' hb' hl'
    simp only [Cx.put] at hb'
    by_cases e : b = b'
    · subst e
      rw [List.getElem?_set_self hlt] at hb'
      cases hb'
      exact .inr ⟨r, o, hf, hat.1, hh⟩
    · rw [List.getElem?_set_ne e] at hb'
      rcases h.holds b' blk' hb' hl' with ⟨h1, h2⟩ | ⟨r', o', h1, h2, h3⟩
      · exact .inl ⟨h1, h2⟩
      · refine .inr ⟨r', o', h1, h2, h3.mono hfr h.img (setBlk_other fun er => ?_)⟩
        subst er
        exact e (h.inj b b' _ _ r o o' hb hl0 hb' hl' hf h1)
  · intro r' hr'
    have : (c.put b blk r ob).w.heap.size = c.w.heap.size := setBlk_size _ _ _
    have := h.small r' hr'
    omega
  · intro b1 b2 k1 k2 r' o1 o2 h1 l1 h2 l2 f1 f2
    obtain ⟨k1', g1, g1'⟩ := back h1 l1
    obtain ⟨k2', g2, g2'⟩ := back h2 l2
    exact h.inj b1 b2 _ _ r' o1 o2 g1 g1' g2 g2' f1 f2
end
end Go.E
namespace Go.E
inductive Res (P : Program) (C : CallH) (o : Oper) (a : Act) (c0 c : Cx) (k : List AVal → AVal → Heap → Prop) : Prop where
  | val (tm : List AVal) (v : AVal) (u : Value) (c' : Cx) (n : Next) (hk : k tm v c'.H) (hv : VRel c' v u) (hf : Fr c0 c') (ht : TRel c' tm a.tmps) (hh : HRel c')
      (hn : n = .value u ∨ (n = .skip ∧ u = undef)) (hr : (execOp a.eval o).run P c.w = .ok n c'.w) : Res P C o a c0 c k
  | call (f : FuncId) (vs : List AVal) (args : Array Value) (tm : List AVal) (hc : C f vs tm c.H k) (ha : CRel c vs args.toList) (ht : TRel c tm a.tmps) (hr : (execOp a.eval o).run P c.w = .ok (.enter f args) c.w) : Res P C o a c0 c k
section
variable {P : Program} {T : TEnv} {C : CallH} {c0 c : Cx} {a : Act} {o : Oper} {tm : List AVal} {k : List AVal → AVal → Heap → Prop}
theorem res_of_ok {op : Op} (ho : o.op = op) (h : OpOK P op a c fun v => k tm v c.H) (hf : Fr c0 c) (ht : TRel c tm a.tmps) (hh : HRel c) : Res P C o a c0 c k := by
  obtain ⟨v, u, h1, h2, h3⟩ := h
  exact .val tm v u c _ h1 h2 hf ht hh (.inl rfl) (h3 o ho)
theorem newW_iff {H : Heap} {b : Blk} {K : Nat → Heap → Prop} : newW H b K ↔ K H.length (H ++ [b]) := by
  unfold newW
  rw [lenL_iff, snocL_iff]
theorem res_push {ob : Obj} {blk : Blk} {v : AVal} {u : Value} (hf : Fr c0 c) (ht : TRel c tm a.tmps) (hh : HRel c) (hk : k tm v (c.H ++ [blk])) (hv : VRel (c.push ob blk) v u) (hb : Holds (c.push ob blk) c.w.heap.size 0 blk)
    (hr : (execOp a.eval o).run P c.w = .ok (.value u) (c.w.alloc ob)) : Res P C o a c0 c k :=
  .val tm v u (c.push ob blk) _ hk hv (hf.trans (c.push_fr ob blk)) (ht.mono (c.push_fr ob blk) hh.img) (c.push_heap hh ob blk hb) (.inl rfl) hr
theorem res_more {ob : Obj} {v : AVal} {u : Value} (hf : Fr c0 c) (ht : TRel c tm a.tmps) (hh : HRel c) (hk : k tm v c.H) (hv : VRel (c.more ob) v u)
    (hr : (execOp a.eval o).run P c.w = .ok (.value u) (c.w.alloc ob)) : Res P C o a c0 c k :=
  .val tm v u (c.more ob) _ hk hv (hf.trans (c.more_fr ob)) (ht.mono (c.more_fr ob) hh.img) (c.more_heap hh ob) (.inl rfl) hr
theorem zero_rel (c : Cx) (v : Value) : CRel c (v.cells.toList.map .ofV1) v.cells.toList := ⟨by simp, fun i x u h1 h2 => by
  rw [List.getElem?_map, h2] at h1
  cases h1
  exact ofV1_rel c u⟩
theorem push_get (c : Cx) (ob : Obj) (blk : Blk) : (c.push ob blk).H[c.H.length]? = some blk := by
  simp [Cx.push]
theorem push_φ (c : Cx) (ob : Obj) (blk : Blk) : (c.push ob blk).φ c.H.length = some (c.w.heap.size, 0) := by
  simp [Cx.push]
theorem push_heap_new (c : Cx) (ob : Obj) (blk : Blk) : (c.push ob blk).w.heap[c.w.heap.size]? = some ob := heap_alloc_new c.w ob
theorem holds_cells (hh : HRel c) {l : List AVal} {us : Array Value} (h : CRel c l us.toList) (t : TypeId) : Holds (c.push (.cells us t) (.cells l)) c.w.heap.size 0 (.cells l) :=
  ⟨us, t, (0, 0), push_heap_new c _ _, unf0 _, by have := h.1; simp at this; omega, fun j v u h1 h2 => (h.2 j v u h1 (by rw [Array.getElem?_toList]; simpa using h2)).mono (c.push_fr _ _) hh.img⟩
theorem vrel_newptr (ob : Obj) (blk : Blk) : VRel (c.push ob blk) (.ptr ⟨c.H.length, 0, 0⟩) (.pointer (some ⟨c.w.heap.size, 0, none⟩)) :=
  .ptr (push_get c ob blk) fun _ => ⟨_, _, push_φ c ob blk, by cases blk <;> simp [lin]⟩
theorem ofV1_nilptr {x : Value} (h : AVal.ofV1 x = .nilptr) : x = .pointer none := by
  unfold AVal.ofV1 at h
  split at h <;> first | rfl | cases h
theorem ofV1_nilslice {x : Value} (h : AVal.ofV1 x = .nilslice) : x = .slice none 0 0 := by
  unfold AVal.ofV1 at h
  split at h <;> first | rfl | cases h
theorem ok_alloc (hT : TOK P T) {n0 : Nat} {t : TypeId} (ho : o.op = .alloc t) (hf : Fr c0 c) (ht : TRel c tm a.tmps) (hh : HRel c) (h : opW C T n0 (.alloc t) tm c.H k) : Res P C o a c0 c k := by
  simp only [opW] at h
  split at h
  · rename_i z p hti
    obtain ⟨v, hz, rfl⟩ := hT.zero hti rfl
    have hr : (execOp a.eval o).run P c.w = .ok (.value (.pointer (some ⟨c.w.heap.size, 0, none⟩))) (c.w.alloc (.cells v.cells t)) := by simp [execOp, ho, Instr.alloc, hz, newVar, newRow]
    have plain : (newW c.H (.cells (v.cells.toList.map .ofV1)) fun b H' => k tm (.ptr ⟨b, 0, 0⟩) H') → Res P C o a c0 c k := fun h => by
      rw [newW_iff] at h
      exact res_push hf ht hh h (vrel_newptr (.cells v.cells t) _) (holds_cells hh (zero_rel c v) t) hr
    unfold allocW at h
    split at h
    · exact plain h
    · rename_i s e hsb
      split at h
      · rename_i hbt
        have hts : t = s := Nat.eq_of_beq_eq_true hbt
        subst hts
        split at h
        · rename_i hz2
          rw [newW_iff] at h
          have hcs : v.cells = #[.pointer none, .slice none 0 0] := by
            have hl := congrArg List.length hz2
            simp only [List.length_map, Array.length_toList, List.length_cons, List.length_nil] at hl
            have g0 := congrArg (fun L => L[0]?) hz2
            have g1 := congrArg (fun L => L[1]?) hz2
            simp only [List.getElem?_map, Array.getElem?_toList] at g0 g1
            apply Array.ext_getElem?
            intro i
            match i with
            | 0 =>
              cases h0 : v.cells[0]? with
              | none => rw [h0] at g0; cases g0
              | some x => rw [h0] at g0; rw [ofV1_nilptr (Option.some.inj g0)]; rfl
            | 1 =>
              cases h0 : v.cells[1]? with
              | none => rw [h0] at g1; cases g1
              | some x => rw [h0] at g1; rw [ofV1_nilslice (Option.some.inj g1)]; rfl
            | i + 2 => rw [Array.getElem?_eq_none (by omega)]; rfl
          refine res_push hf ht hh h (vrel_newptr (.cells v.cells t) _) ?_ hr
          refine ⟨rfl, t, e, hsb, ?_, ?_⟩
          · have hp := push_heap_new c (.cells v.cells t) (.sb [])
            rw [hcs] at hp ⊢
            exact .inl ⟨Nat.le_refl _, _, hp, ⟨rfl, .inl ⟨rfl, rfl⟩⟩, by simp [Value.ownBlock]⟩
          · rintro g ⟨p, u, t', fr, q1, q2⟩
            rw [push_heap_new, hcs] at q1
            simp only [Option.some.injEq, Obj.cells.injEq] at q1
            have := congrArg (fun A : Array Value => A[1]?) q1.1
            simp at this
            rw [← this] at q2
            cases q2
        · exact plain h
      · exact plain h
  · exact h.elim
theorem ok_box {n0 : Nat} {t : TypeId} {x : Operand} (ho : o.op = .box t x) (hf : Fr c0 c) (ht : TRel c tm a.tmps) (hh : HRel c) (h : opW C T n0 (.box t x) tm c.H k) : Res P C o a c0 c k := by
  simp only [opW, force_iff] at h
  obtain ⟨h1, h⟩ := whenB_iff.1 h
  rw [newW_iff] at h
  exact res_push hf ht hh h (vrel_newptr (.cells (a.eval x).cells t) _) (holds_cells hh (cells_rel (eval_rel ht x) h1) t)
    (by simp [execOp, ho, Instr.box, newVar, newRow])
theorem closed_rel {v : AVal} {u : Value} (h : VRel c v u) (hv : v.closed = true) : RRel c.w c.X v u := by
  cases h with
  | closed h => exact h
  | any => simp [AVal.closed] at hv
  | _ => simp [AVal.closed] at hv
theorem allClosed_mem {cs : List AVal} (h : allClosed cs = true) : ∀ v ∈ cs, v.closed = true := by
  induction cs with
  | nil => simp
  | cons x r ih =>
    unfold allClosed at h
    cases hx : x.closed with
    | true =>
      simp only [hx] at h
      intro v hv
      rcases List.mem_cons.1 hv with rfl | hv
      · exact hx
      · exact ih h v hv
    | false => simp [hx] at h
theorem vrel_newro (hh : HRel c) {ws : Array Value} {t : TypeId} {fr : Nat × Nat} {sz n cap : Nat} {row : Nat → List AVal} (hn : n ≤ cap) (hw : n * sz ≤ ws.size)
    (hrow : ∀ i, i < n → (row i).length = sz ∧ ∀ (j : Nat) (v : AVal) (u : Value), (row i)[j]? = some v → ws[i * sz + j]? = some u → RRel c.w c.X v u) :
    VRel (c.more (.cells ws t fr)) (.ro sz n row) (.slice (some ⟨c.w.heap.size, 0, none⟩) n cap) := by
  refine .closed (.ro hn (fun hx => ?_) (heap_alloc_new c.w _) (fun i hi => (hrow i hi).1) (fun i hi => ?_) (fun i hi j v u h1 h2 => ?_))
  · have := hh.small _ hx
    omega
  · have : i * sz + sz ≤ n * sz := by rw [← Nat.succ_mul]; exact Nat.mul_le_mul_right _ hi
    omega
  · rw [Nat.zero_add] at h2
    exact ((hrow i hi).2 j v u h1 h2).mono ((c.more_fr _).quiet hh.img)
theorem vrel_newslice {ws : Array Value} {t : TypeId} {fr : Nat × Nat} {n cap : Nat} {blk : Blk} (hn : n ≤ cap) (hr : blk.grows = true → cap * stride blk ≤ ws.size) :
    VRel (c.push (.cells ws t fr) blk) (.slice ⟨c.H.length, 0, 0⟩ n) (.slice (some ⟨c.w.heap.size, 0, none⟩) n cap) :=
  .slice (push_get c _ _) hn fun _ => .inr ⟨_, _, push_φ c _ _, by cases blk <;> simp [lin], fun hg => ⟨ws, t, fr, push_heap_new c _ _, by have := hr hg; cases blk <;> simp [lin] <;> omega⟩⟩
theorem holds_ints {ws : Array Value} {t : TypeId} {fr : Nat × Nat} (hfr : Unf fr ws.size) {kk : IntKind} {l : List Int} (hl : l.length ≤ ws.size) (h : ∀ (j : Nat) (x : Int), l[j]? = some x → ws[j]? = some (.int kk x)) :
    Holds (c.push (.cells ws t fr) (.ints kk l)) c.w.heap.size 0 (.ints kk l) :=
  ⟨ws, t, fr, push_heap_new c _ _, hfr, by omega, fun j x hx => by rw [Nat.zero_add]; exact h j x hx⟩
theorem holds_rows (hh : HRel c) {ws : Array Value} {t : TypeId} {fr : Nat × Nat} (hfr : Unf fr ws.size) {sz n : Nat} {f : Nat → List AVal} (hl : n * sz ≤ ws.size)
    (hrow : ∀ i, i < n → (f i).length = sz ∧ ∀ (j : Nat) (v : AVal) (u : Value), (f i)[j]? = some v → ws[i * sz + j]? = some u → RRel c.w c.X v u) :
    Holds (c.push (.cells ws t fr) (.rows sz n f)) c.w.heap.size 0 (.rows sz n f) :=
  ⟨ws, t, fr, push_heap_new c _ _, hfr, by omega, fun i hi => ⟨(hrow i hi).1, fun j v u h1 h2 => ((hrow i hi).2 j v u h1 (by rw [Nat.zero_add] at h2; exact h2)).mono ((c.push_fr _ _).quiet hh.img)⟩⟩
theorem intsW_ok {kk : IntKind} : ∀ {cs : List AVal} {K : List Int → Prop}, intsW kk cs K → ∃ l, K l ∧ cs = l.map (AVal.int kk) := by
  intro cs
  induction cs with
  | nil => intro K h; exact ⟨[], h, rfl⟩
  | cons v r ih =>
    intro K h
    cases v with
    | int k' n =>
      simp only [intsW] at h
      cases hs : sameKind kk k' with
      | false => simp [hs] at h
      | true =>
        simp only [hs] at h
        have := sameKind_iff.1 hs
        subst this
        obtain ⟨l, h1, rfl⟩ := ih h
        exact ⟨n :: l, h1, rfl⟩
    | _ => simp [intsW] at h
theorem newSlice_ok {te : TI} {n : Nat} {cs : List AVal} {ws : Array Value} {t : TypeId} (h0 : 0 < te.size) (hf : Fr c0 c) (ht : TRel c tm a.tmps) (hh : HRel c) (h : newSliceW te n cs tm c.H k)
    (hc : CRel c cs ws.toList) (hl : ws.size = n * te.size)
    (hr : (execOp a.eval o).run P c.w = .ok (.value (.slice (some ⟨c.w.heap.size, 0, none⟩) n n)) (c.w.alloc (.cells ws t))) : Res P C o a c0 c k := by
  have hcl : cs.length = n * te.size := by rw [hc.1]; simpa using hl
  have ints : ∀ kk, whenB (Nat.beq te.size 1) (intsW kk cs fun l => choice (k tm (.ro 1 n (irow kk l)) c.H) (newW c.H (.ints kk l) fun b H' => k tm (.slice ⟨b, 0, 0⟩ n) H')) → Res P C o a c0 c k := by
    intro kk h
    obtain ⟨h1, h2⟩ := whenB_iff.1 h
    have h1 := Nat.eq_of_beq_eq_true h1
    obtain ⟨l, h3, hle⟩ := intsW_ok h2
    rw [h1, Nat.mul_one] at hl
    have hll : l.length = n := by have := hc.1; rw [hle] at this; simp at this; omega
    have hcell : ∀ (j : Nat) (x : Int), l[j]? = some x → ws[j]? = some (.int kk x) := by
      intro j x hx
      have hlt : j < ws.size := by have := (List.getElem?_eq_some_iff.1 hx).1; omega
      have := hc.2 j (.int kk x) ws[j] (by rw [hle, List.getElem?_map, hx]; rfl) (by rw [Array.getElem?_toList]; exact Array.getElem?_eq_getElem hlt)
      rw [Array.getElem?_eq_getElem hlt, this.inv_int]
    rcases choice_iff.1 h3 with h4 | h4
    · refine res_more hf ht hh h4 (vrel_newro hh (Nat.le_refl n) (by omega) fun i hi => ⟨rfl, fun j v u g1 g2 => ?_⟩) hr
      cases j with
      | zero =>
        simp only [irow, List.getElem?_cons_zero, Option.some.injEq] at g1
        subst g1
        have := hcell i l[i] (List.getElem?_eq_getElem (by omega))
        rw [Nat.mul_one, Nat.add_zero, this] at g2
        cases g2
        rw [List.getD_eq_getElem?_getD, List.getElem?_eq_getElem (by omega)]
        exact .int _ _
      | succ j => simp [irow] at g1
    · rw [newW_iff] at h4
      exact res_push hf ht hh h4 (vrel_newslice (Nat.le_refl n) fun _ => by simp [stride]; omega) (holds_ints (unf0 _) (by omega) hcell) hr
  have rows : (match allClosed cs with
      | true => choice (k tm (.ro te.size n (chunk te.size cs)) c.H) (newW c.H (.rows te.size n (chunk te.size cs)) fun b H' => k tm (.slice ⟨b, 0, 0⟩ n) H')
      | false => newW c.H (.cells cs) fun b H' => k tm (.slice ⟨b, 0, 0⟩ n) H') → Res P C o a c0 c k := by
    intro h
    split at h
    rotate_left
    · rw [newW_iff] at h
      exact res_push hf ht hh h (vrel_newslice (Nat.le_refl n) fun hg => by cases hg) (holds_cells hh hc t) hr
    rename_i h1
    have hrow : ∀ i, i < n → (chunk te.size cs i).length = te.size ∧ ∀ (j : Nat) (v : AVal) (u : Value), (chunk te.size cs i)[j]? = some v → ws[i * te.size + j]? = some u → RRel c.w c.X v u := by
      intro i hi
      have hle : i * te.size + te.size ≤ n * te.size := by rw [← Nat.succ_mul]; exact Nat.mul_le_mul_right _ hi
      refine ⟨by simp [chunk]; omega, fun j v u g1 g2 => ?_⟩
      simp only [chunk, List.getElem?_take, List.getElem?_drop] at g1
      split at g1
      · exact closed_rel (hc.2 _ v u g1 (by rw [Array.getElem?_toList]; exact g2)) (allClosed_mem h1 v (List.mem_of_getElem? g1))
      · cases g1
    rcases choice_iff.1 h with h | h
    · exact res_more hf ht hh h (vrel_newro hh (Nat.le_refl n) (by omega) hrow) hr
    · rw [newW_iff] at h
      exact res_push hf ht hh h (vrel_newslice (Nat.le_refl n) fun _ => by simp [stride]; omega) (holds_rows hh (unf0 _) (by omega) hrow) hr
  unfold newSliceW at h
  split at h
  · exact ints _ h
  · exact rows h
theorem timesL_iff {z : List AVal} : ∀ {n : Nat} {K : List AVal → Prop}, timesL n z K ↔ K ((List.replicate n z).flatten) := by
  intro n
  induction n with
  | zero => intro K; simp [timesL]
  | succ n ih => intro K; simp [timesL, ih, appL_iff, List.replicate_succ]
theorem times_get {α : Type} (z : List α) (hz : 0 < z.length) : ∀ (n i : Nat), i < n * z.length → ((List.replicate n z).flatten)[i]? = z[i % z.length]? := by
  intro n
  induction n with
  | zero => intro i h; omega
  | succ n ih =>
    intro i h
    rw [List.replicate_succ, List.flatten_cons]
    by_cases hi : i < z.length
    · rw [List.getElem?_append_left hi, Nat.mod_eq_of_lt hi]
    · rw [Nat.succ_mul] at h
      rw [List.getElem?_append_right (by omega), ih _ (by omega), ← Nat.mod_eq_sub_mod (by omega)]
theorem times_rel {z : List AVal} {v : Value} (hz : z = v.cells.toList.map .ofV1) (h0 : 0 < z.length) (n : Nat) :
    CRel c ((List.replicate n z).flatten) ((Array.range (n * z.length)).map (v.cells[· % v.cells.size]!)).toList := by
  have hl : v.cells.size = z.length := by rw [hz]; simp
  refine ⟨by simp, fun i x u h1 h2 => ?_⟩
  rw [Array.getElem?_toList] at h2
  have hi : i < n * z.length := by
    have := (Array.getElem?_eq_some_iff.1 h2).1
    simpa using this
  rw [times_get z h0 n i hi] at h1
  simp only [Array.getElem?_map, Array.getElem?_range, hi, if_true, Option.map_some, Option.some.injEq] at h2
  have hm : i % v.cells.size < v.cells.size := Nat.mod_lt _ (by omega)
  rw [getElem!_pos v.cells _ hm] at h2
  subst h2
  have hlt : i % z.length < v.cells.toList.length := by simp [hl]; exact Nat.mod_lt _ h0
  rw [hz, List.getElem?_map] at h1
  simp only [List.length_map, Array.length_toList] at h1
  rw [Array.getElem?_toList, Array.getElem?_eq_getElem hm] at h1
  cases h1
  exact ofV1_rel c _
theorem ok_buildSlice (hT : TOK P T) {n0 : Nat} {t : TypeId} {len : Nat} {parts : Array (Nat × Operand)} (ho : o.op = .buildSlice t len parts) (hf : Fr c0 c) (ht : TRel c tm a.tmps) (hh : HRel c) (h : opW C T n0 (.buildSlice t len parts) tm c.H k) : Res P C o a c0 c k := by
  simp only [opW] at h
  split at h
  · rename_i e z p hti
    have hd := hT.slice hti
    cases he : T[e]? with
    | none => simp [he] at h
    | some te =>
      simp only [he] at h
      cases hz : te.zero with
      | none => simp [hz] at h
      | some z =>
        simp only [hz] at h
        obtain ⟨h0, h⟩ := whenB_iff.1 h
        obtain ⟨hle, h⟩ := whenB_iff.1 h
        rw [lenL_iff] at h
        obtain ⟨hzl, h⟩ := whenB_iff.1 h
        rw [timesL_iff] at h
        have h0 : 0 < te.size := by simp [Nat.blt] at h0; omega
        have hle : len * te.size ≤ 16777216 := Nat.le_of_ble_eq_true hle
        have hzl : z.length = te.size := Nat.eq_of_beq_eq_true hzl
        obtain ⟨v, hzr, hze⟩ := hT.zero he hz
        have hv : v.cells.size = te.size := by rw [← hzl, hze]; simp
        obtain ⟨cells', us', g1, g2, g3, g4⟩ := fill_ok ht parts.toList _ _ _ (times_rel hze (by omega) len) h
        have husz : us'.size = len * te.size := by rw [g4, hzl]; simp
        refine newSlice_ok (t := e) h0 hf ht hh g1 g2 husz ?_
        have hb : ¬ (len * te.size > 2 ^ 24) := by omega
        rw [hzl] at g3
        by_cases hlen : len * te.size = 0
        · rw [hlen] at g3 hb
          have hem : ∀ f : Nat → Value, (Array.range 0).map f = #[] := fun f => by apply Array.ext_getElem?; intro i; simp
          rw [hem] at g3
          simp [execOp, ho, Instr.buildSlice, run_underlying hd, hT.size he, hlen, hem, g3, newRow]
        · simp only [execOp, ho, Instr.buildSlice]
          simp only [Sem.run_bind, run_underlying hd, Result.andThen_ok, hT.size he, hb, if_false, hlen, hzr, Sem.run_pure, Array.toList_map, g3, newRow]
          simp [g3, hzr]
  · exact h.elim
end
end Go.E
