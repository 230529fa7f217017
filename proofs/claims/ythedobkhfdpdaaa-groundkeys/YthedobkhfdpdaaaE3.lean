/- The engine, part U: every operation comes to one of certain results, whatever is asked of the result. -/
import Derived.Test.YthedobkhfdpdaaaE2
import Derived.Orders
set_option linter.unusedVariables false
set_option linter.unusedSimpArgs false
namespace Go.E
def Ang {α : Type} (F : (α → Prop) → Prop) : Prop := ∃ R : α → Prop, ∀ k, F k ↔ ∃ r, R r ∧ k r
section
variable {α β : Type}
theorem ang_ret (r : α) : Ang (fun k => k r) := ⟨(· = r), fun k => ⟨fun h => ⟨r, rfl, h⟩, fun ⟨_, e, h⟩ => e ▸ h⟩⟩
theorem ang_no : Ang (fun _ : α → Prop => False) := ⟨fun _ => False, fun k => ⟨fun h => h.elim, fun ⟨_, h, _⟩ => h⟩⟩
theorem ang_need {p : Prop} {F : (α → Prop) → Prop} (h : Ang F) : Ang (fun k => need p (F k)) := by
  obtain ⟨R, hR⟩ := h
  refine ⟨fun r => p ∧ R r, fun k => ?_⟩
  show need p (F k) ↔ _
  rw [need_iff, hR]
  exact ⟨fun ⟨h, r, h1, h2⟩ => ⟨r, ⟨h, h1⟩, h2⟩, fun ⟨r, ⟨h, h1⟩, h2⟩ => ⟨h, r, h1, h2⟩⟩
theorem ang_whenB {b : Bool} {F : (α → Prop) → Prop} (h : Ang F) : Ang (fun k => whenB b (F k)) := by
  cases b
  · exact ang_no
  · exact h
theorem ang_choice {F G : (α → Prop) → Prop} (hF : Ang F) (hG : Ang G) : Ang (fun k => choice (F k) (G k)) := by
  obtain ⟨R, hR⟩ := hF
  obtain ⟨S, hS⟩ := hG
  refine ⟨fun r => R r ∨ S r, fun k => ?_⟩
  show choice (F k) (G k) ↔ _
  rw [choice_iff, hR, hS]
  exact ⟨fun h => h.elim (fun ⟨r, h1, h2⟩ => ⟨r, .inl h1, h2⟩) (fun ⟨r, h1, h2⟩ => ⟨r, .inr h1, h2⟩), fun ⟨r, h1, h2⟩ => h1.elim (fun h1 => .inl ⟨r, h1, h2⟩) (fun h1 => .inr ⟨r, h1, h2⟩)⟩
theorem ang_branch {b : Bool} {F G : (α → Prop) → Prop} (hF : Ang F) (hG : Ang G) : Ang (fun k => branch b (F k) (G k)) := by
  cases b
  · refine cast ?_ hG
    congr 1; funext k
    exact propext ⟨fun h => branch_intro (fun h => by cases h) (fun _ => h), fun h => by simpa using branch_at h⟩
  · refine cast ?_ hF
    congr 1; funext k
    exact propext ⟨fun h => branch_intro (fun _ => h) (fun h => by cases h), fun h => by simpa using branch_at h⟩
theorem ang_bind {F : (α → Prop) → Prop} {G : α → (β → Prop) → Prop} (hF : Ang F) (hG : ∀ a, Ang (G a)) : Ang (fun k => F fun a => G a k) := by
  obtain ⟨R, hR⟩ := hF
  refine ⟨fun b => ∃ a, R a ∧ ∃ S : β → Prop, (∀ k, G a k ↔ ∃ r, S r ∧ k r) ∧ S b, fun k => ?_⟩
  show F (fun a => G a k) ↔ _
  rw [hR]
  constructor
  · rintro ⟨a, h1, h2⟩
    obtain ⟨S, hS⟩ := hG a
    obtain ⟨r, h3, h4⟩ := (hS k).1 h2
    exact ⟨r, ⟨a, h1, S, hS, h3⟩, h4⟩
  · rintro ⟨r, ⟨a, h1, S, hS, h3⟩, h4⟩
    exact ⟨a, h1, (hS k).2 ⟨r, h3, h4⟩⟩
theorem ang_iff {F G : (α → Prop) → Prop} (h : ∀ k, F k ↔ G k) (hG : Ang G) : Ang F := by
  obtain ⟨R, hR⟩ := hG
  exact ⟨R, fun k => (h k).trans (hR k)⟩
theorem ang_force (v : AVal) : Ang (force v) := ang_iff (fun _ => force_iff) (ang_ret v)
theorem ang_takeL (n : Nat) (l : List α) : Ang (takeL n l) := by
  refine ang_iff (G := fun k => need (n ≤ l.length) (k (l.take n))) (fun k => ?_) (ang_need (ang_ret _))
  rw [need_iff]; exact takeL_iff
theorem ang_dropTakeL : ∀ (i n : Nat) (l : List α), Ang (dropTakeL i n l)
  | 0, n, l => ang_takeL n l
  | _ + 1, _, [] => ang_no
  | i + 1, n, _ :: r => ang_dropTakeL i n r
theorem ang_setL (l : List α) (i : Nat) (v : α) : Ang (setL l i v) := ang_iff (fun _ => setL_iff) (ang_ret _)
theorem ang_lenL (l : List α) : Ang (lenL l) := ang_iff (fun _ => lenL_iff) (ang_ret _)
theorem ang_overL (n l : List α) : Ang (overL n l) := by
  refine ang_iff (G := fun k => need (n.length ≤ l.length) (k (n ++ l.drop n.length))) (fun k => ?_) (ang_need (ang_ret _))
  rw [need_iff]; exact overL_iff
theorem ang_spliceL : ∀ (i : Nat) (n l : List α), Ang (spliceL i n l)
  | 0, n, l => ang_overL n l
  | _ + 1, _, [] => ang_no
  | i + 1, n, a :: r => ang_bind (F := spliceL i n r) (G := fun r' k => k (a :: r')) (ang_spliceL i n r) fun _ => ang_ret _
theorem ang_getL : ∀ (l : List α) (i : Nat), Ang (getL l i)
  | [], _ => ang_no
  | a :: _, 0 => ang_ret a
  | _ :: r, i + 1 => ang_getL r i
theorem ang_evalL (tm : List AVal) (xs : List Operand) : Ang (evalL tm xs) := ang_iff (fun _ => evalL_iff) (ang_ret _)
theorem ang_timesL (n : Nat) (z : List AVal) : Ang (timesL n z) := ang_iff (fun _ => timesL_iff) (ang_ret _)
end
theorem ang_intBin (op : BinOp) (k : IntKind) (a b : Int) : Ang (intBin op k a b) := by
  cases op <;> first | exact ang_ret _ | exact ang_need (ang_ret _) | exact ang_no
theorem ang_intShift (op : BinOp) (k : IntKind) (a b : Int) : Ang (intShift op k a b) := by
  cases op <;> first | exact ang_need (ang_ret _) | exact ang_no
theorem ang_eqW (op : BinOp) (b : Bool) : Ang (eqW op b) := by
  cases op <;> first | exact ang_ret _ | exact ang_no
theorem ang_strBin (op : BinOp) (a b : ByteArray) : Ang (strBin op a b) := by
  cases op <;> first | exact ang_ret _ | exact ang_need (ang_ret _) | exact ang_no
theorem ang_eqElems (sz : Nat) (f : List AVal → List AVal → (Bool → Prop) → Prop) (hf : ∀ x y, Ang (f x y)) : ∀ (n i : Nat) (xs ys : List AVal), Ang (eqT.eqElems sz f n i xs ys)
  | 0, _, _, _ => ang_ret true
  | n + 1, i, xs, ys => by
    show Ang (fun k => eqT.eqElems sz f (n + 1) i xs ys k)
    unfold eqT.eqElems
    exact ang_bind (ang_dropTakeL _ _ _) fun x => ang_bind (ang_dropTakeL _ _ _) fun y => ang_bind (hf x y) fun b => ang_bind (ang_eqElems sz f hf n (i + 1) xs ys) fun b' => ang_ret _
theorem ang_eqFields (T : TEnv) (f : Nat → List AVal → List AVal → (Bool → Prop) → Prop) (hf : ∀ e x y, Ang (f e x y)) : ∀ (fs : List (Nat × Nat)) (xs ys : List AVal), Ang (eqT.eqFields T f fs xs ys)
  | [], _, _ => ang_ret true
  | (o, e) :: r, xs, ys => by
    show Ang (fun k => eqT.eqFields T f ((o, e) :: r) xs ys k)
    unfold eqT.eqFields
    cases T[e]? with
    | none => exact ang_no
    | some te => exact ang_whenB (ang_bind (ang_dropTakeL _ _ _) fun x => ang_bind (ang_dropTakeL _ _ _) fun y => ang_bind (hf e x y) fun b => ang_bind (ang_eqFields T f hf r xs ys) fun b' => ang_ret _)
theorem ang_eqT (T : TEnv) : ∀ (d t : Nat) (xs ys : List AVal), Ang (eqT T d t xs ys)
  | 0, _, _, _ => ang_no
  | d + 1, t, xs, ys => by
    show Ang (fun k => eqT T (d + 1) t xs ys k)
    unfold eqT
    cases T[t]? with
    | none => exact ang_no
    | some ti =>
      obtain ⟨s, b, dd, z, p⟩ := ti
      refine ang_whenB ?_
      cases dd with
      | arr n e =>
        show Ang (fun k => match T[e]? with | none => False | some te => whenB (Nat.blt 0 te.size) (eqT.eqElems te.size (fun xs ys k => eqT T d e xs ys k) n 0 xs ys k))
        cases T[e]? with
        | none => exact ang_no
        | some te => exact ang_whenB (ang_eqElems _ _ (fun x y => ang_eqT T d e x y) _ _ _ _)
      | struct fs => exact ang_eqFields _ _ (fun e x y => ang_eqT T d e x y) _ _ _
      | _ => rcases xs with _ | ⟨x, _ | ⟨_, _⟩⟩ <;> rcases ys with _ | ⟨y, _ | ⟨_, _⟩⟩ <;> (try cases x) <;> (try cases y) <;> first | exact ang_no | exact ang_ret _ | exact ang_whenB (ang_ret _)
end Go.E
namespace Go.E
theorem ang_binW (T : TEnv) (op : BinOp) (t : Nat) (x y : AVal) : Ang (binW T op t x y) := by
  show Ang (fun k => binW T op t x y k)
  unfold binW
  cases x <;> cases y <;> first
    | exact ang_no
    | exact ang_strBin _ _ _
    | skip
  case int.int k a k' b =>
    show Ang (fun K : AVal → Prop => match isShift op with | true => intShift op k a b K | false => (match sameKind k k' with | true => intBin op k a b K | false => False))
    cases isShift op
    · cases sameKind k k'
      · exact ang_no
      · exact ang_intBin _ _ _ _
    · exact ang_intShift _ _ _ _
  case agg.agg xs ys =>
    show Ang (fun K : AVal → Prop => match T[t]? with | some ti => whenB ti.isAgg (eqT T 8 t xs ys fun b => eqW op b K) | none => False)
    cases T[t]? with
    | none => exact ang_no
    | some ti => exact ang_whenB (ang_bind (ang_eqT _ _ _ _ _) fun b => ang_eqW _ _)
  all_goals
    cases T[t]? with
    | none => exact ang_no
    | some ti =>
      obtain ⟨s, b, d, z, p⟩ := ti
      cases d <;> first | exact ang_no | exact ang_eqW _ _
theorem ang_fillW (place : Nat → Option (Nat × Nat)) (tm : List AVal) : ∀ (ps : List (Nat × Operand)) (cells : List AVal), Ang (fillW place tm ps cells)
  | [], cells => ang_ret cells
  | (i, x) :: rest, cells => by
    show Ang (fun k => fillW place tm ((i, x) :: rest) cells k)
    unfold fillW
    cases place i with
    | none => exact ang_no
    | some p =>
      obtain ⟨off, size⟩ := p
      exact ang_bind (ang_force _) fun v => ang_whenB (ang_bind (ang_lenL _) fun m => ang_whenB (ang_bind (ang_spliceL _ _ _) fun cells' => ang_fillW place tm rest cells'))
theorem ang_partW (ti : TI) (cs : List AVal) (off : Nat) : Ang (partW ti cs off) := by
  show Ang (fun k => partW ti cs off k)
  unfold partW
  cases ti.isAgg
  · exact ang_bind (ang_getL _ _) fun v => ang_force _
  · exact ang_bind (ang_dropTakeL _ _ _) fun r => ang_ret _
theorem ang_boundsW {β : Type} {G : Nat → Nat → (β → Prop) → Prop} (hG : ∀ l h, Ang (G l h)) (n : Nat) (lo hi : Option AVal) : Ang (fun k => boundsW n lo hi fun l h => G l h k) := by
  unfold boundsW
  rcases lo with _ | lo <;> rcases hi with _ | hi <;> (try cases lo) <;> (try cases hi) <;> first | exact ang_no | exact ang_need (hG _ _) | exact hG _ _
theorem ang_lenW (T : TEnv) (t : Nat) (x : AVal) : Ang (lenW T t x) := by
  show Ang (fun k => lenW T t x k)
  unfold lenW
  cases T[t]? with
  | none => exact ang_no
  | some ti =>
    obtain ⟨s, b, d, z, p⟩ := ti
    cases d <;> cases x <;> first | exact ang_no | exact ang_ret _
theorem ang_minInt (k : IntKind) (mx : Bool) : ∀ (vs : List AVal) (x : Int), Ang (minInt k mx x vs)
  | [], x => ang_ret _
  | v :: r, x => by
    show Ang (fun K => minInt k mx x (v :: r) K)
    cases v with
    | int k' y =>
      unfold minInt
      cases sameKind k k'
      · exact ang_no
      · exact ang_minInt k mx r _
    | _ => exact ang_no
theorem ang_pureW (T : TEnv) (op : Op) (tm : List AVal) : Ang (pureW T op tm) := by
  show Ang (fun k => pureW T op tm k)
  cases op with
  | move x => exact ang_force _
  | assign x => exact ang_force _
  | pick c a b =>
    simp only [pureW]
    cases evalO tm c <;> first | exact ang_no | exact ang_branch (ang_force _) (ang_force _)
  | build t parts =>
    simp only [pureW]
    cases T[t]? with
    | none => exact ang_no
    | some ti =>
      obtain ⟨s, b, d, z, p⟩ := ti
      cases d with
      | struct fs =>
        cases z with
        | none => exact ang_no
        | some z => exact ang_whenB (ang_bind (ang_fillW _ _ _ _) fun cs => ang_ret _)
      | arr n e =>
        cases z with
        | none => exact ang_no
        | some z =>
          show Ang (fun k : AVal → Prop => match T[e]? with | some te => fillW (fun i => some (i * te.size, te.size)) tm parts.toList z fun cs => k (.agg cs) | none => False)
          cases T[e]? with
          | none => exact ang_no
          | some te => exact ang_bind (ang_fillW _ _ _ _) fun cs => ang_ret _
      | _ => cases z <;> exact ang_no
  | nilCheck x =>
    simp only [pureW]
    cases evalO tm x with
    | ptr a => exact ang_ret _
    | roptr s n r i j => exact ang_ret _
    | fn f a b => cases f <;> first | exact ang_no | exact ang_ret _
    | _ => exact ang_no
  | binOp op t x y u => exact ang_binW _ _ _ _ _
  | unOp op t x =>
    simp only [pureW]
    cases op <;> cases evalO tm x <;> first | exact ang_no | exact ang_ret _
  | convert src dst x =>
    simp only [pureW]
    cases T[src]? with
    | none => exact ang_no
    | some ti =>
      obtain ⟨s, b, d, z, p⟩ := ti
      cases T[dst]? with
      | none => cases d <;> exact ang_no
      | some tj =>
        obtain ⟨s', b', d', z', p'⟩ := tj
        cases d <;> cases d' <;> cases evalO tm x <;> first | exact ang_no | exact ang_ret _
  | fieldAddr t x f =>
    simp only [pureW]
    cases T[t]? with
    | none => exact ang_no
    | some ti =>
      obtain ⟨s, b, d, z, p⟩ := ti
      cases d with
      | struct fs =>
        show Ang (fun k : AVal → Prop => match fs[f]? with | some (o, e) => (match T[e]? with | some te => whenB (Nat.blt 0 te.size) (match evalO tm x with | .ptr ⟨b, i, j⟩ => k (.ptr ⟨b, i, j + o⟩) | .roptr sz n row i j => k (.roptr sz n row i (j + o)) | _ => False) | none => False) | none => False)
        cases fs[f]? with
        | none => exact ang_no
        | some q =>
          obtain ⟨o, e⟩ := q
          show Ang (fun k : AVal → Prop => match T[e]? with | some te => whenB (Nat.blt 0 te.size) (match evalO tm x with | .ptr ⟨b, i, j⟩ => k (.ptr ⟨b, i, j + o⟩) | .roptr sz n row i j => k (.roptr sz n row i (j + o)) | _ => False) | none => False)
          cases T[e]? with
          | none => exact ang_no
          | some te =>
            refine ang_whenB ?_
            cases evalO tm x <;> first | exact ang_no | exact ang_ret _
      | _ => exact ang_no
  | field t x f =>
    simp only [pureW]
    cases T[t]? with
    | none => exact ang_no
    | some ti =>
      obtain ⟨s, b, d, z, p⟩ := ti
      cases d with
      | struct fs =>
        cases evalO tm x with
        | agg cs =>
          show Ang (fun k : AVal → Prop => match fs[f]? with | some (o, e) => (match T[e]? with | some te => partW te cs o k | none => False) | none => False)
          cases fs[f]? with
          | none => exact ang_no
          | some q =>
            obtain ⟨o, e⟩ := q
            show Ang (fun k : AVal → Prop => match T[e]? with | some te => partW te cs o k | none => False)
            cases T[e]? with
            | none => exact ang_no
            | some te => exact ang_partW _ _ _
        | _ => exact ang_no
      | _ => cases evalO tm x <;> exact ang_no
  | index t x i =>
    simp only [pureW]
    cases T[t]? with
    | none => exact ang_no
    | some ti =>
      obtain ⟨s, b, d, z, p⟩ := ti
      cases d with
      | arr n e =>
        cases evalO tm x with
        | agg cs =>
          cases evalO tm i with
          | int kk i =>
            refine ang_need ?_
            show Ang (fun k : AVal → Prop => match T[e]? with | some te => partW te cs (i.toNat * te.size) k | none => False)
            cases T[e]? with
            | none => exact ang_no
            | some te => exact ang_partW _ _ _
          | _ => exact ang_no
        | _ => cases evalO tm i <;> exact ang_no
      | str => cases evalO tm x <;> cases evalO tm i <;> first | exact ang_no | exact ang_need (ang_ret _)
      | _ => cases evalO tm x <;> cases evalO tm i <;> exact ang_no
  | indexAddr t x i =>
    simp only [pureW]
    cases T[t]? with
    | none => exact ang_no
    | some ti =>
      obtain ⟨s, b, d, z, p⟩ := ti
      cases d with
      | slice e => cases evalO tm x <;> cases evalO tm i <;> (try exact ang_no) <;> (try dsimp only) <;> cases sizeT T e <;> first | exact ang_no | exact ang_whenB (ang_need (ang_ret _))
      | arr n e => cases evalO tm x <;> cases evalO tm i <;> (try exact ang_no) <;> (try dsimp only) <;> cases sizeT T e <;> first | exact ang_no | exact ang_need (ang_ret _)
      | _ => cases evalO tm x <;> cases evalO tm i <;> exact ang_no
  | extract t i =>
    simp only [pureW]
    cases evalO tm t with
    | tuple vs => exact ang_bind (ang_getL _ _) fun v => ang_force _
    | _ => exact ang_no
  | makeFunc f a b =>
    show Ang (fun k : AVal → Prop => evalL tm a.toList fun x => evalL tm b.toList fun y => k (.fn f x y))
    exact ang_bind (ang_evalL _ _) fun a => ang_bind (ang_evalL _ _) fun b => ang_ret _
  | slice t x lo hi mx =>
    cases mx with
    | some m => exact ang_no
    | none =>
      simp only [pureW]
      cases T[t]? with
      | none => exact ang_no
      | some ti =>
        obtain ⟨s, b, d, z, p⟩ := ti
        cases d with
        | str => cases evalO tm x <;> first | exact ang_no | exact ang_boundsW (fun l h => ang_ret _) _ _ _
        | slice e => cases evalO tm x <;> (try exact ang_no) <;> (try dsimp only) <;> cases sizeT T e <;> first | exact ang_no | exact ang_whenB (ang_boundsW (fun l h => ang_ret _) _ _ _) | exact ang_boundsW (fun l h => ang_ret _) _ _ _
        | _ => cases evalO tm x <;> exact ang_no
  | call cl =>
    obtain ⟨f, args, ts⟩ := cl
    cases f with
    | builtin b =>
      cases b with
      | len =>
        simp only [pureW]
        rcases args.toList with _ | ⟨x, _ | ⟨_, _⟩⟩ <;> rcases ts.toList with _ | ⟨t, _ | ⟨_, _⟩⟩ <;> first | exact ang_no | exact ang_lenW _ _ _
      | min =>
        show Ang (fun k : AVal → Prop => evalL tm args.toList fun vs => (match vs with | .int kk x :: r => minInt kk false x r k | _ => False))
        exact ang_bind (G := fun vs k => (match vs with | .int kk x :: r => minInt kk false x r k | _ => False)) (ang_evalL _ _) fun vs => by rcases vs with _ | ⟨v, r⟩ <;> (try cases v) <;> first | exact ang_no | exact ang_minInt _ _ _ _
      | max =>
        show Ang (fun k : AVal → Prop => evalL tm args.toList fun vs => (match vs with | .int kk x :: r => minInt kk true x r k | _ => False))
        exact ang_bind (G := fun vs k => (match vs with | .int kk x :: r => minInt kk true x r k | _ => False)) (ang_evalL _ _) fun vs => by rcases vs with _ | ⟨v, r⟩ <;> (try cases v) <;> first | exact ang_no | exact ang_minInt _ _ _ _
      | _ => exact ang_no
    | _ => exact ang_no
  | _ => exact ang_no
end Go.E
namespace Go.E
def readN (P : Program) (f : FuncId) (l : List AVal) (H : Heap) (v : AVal) : Prop := v.closed2 = true ∧ ∀ ext : Heap, callN P f l (H ++ ext) fun x H' => x = v ∧ H' = H ++ ext
def rdP (P : Program) (f : FuncId) (l : List AVal) (H : Heap) (v : AVal) : Prop := match readFns.contains f with
  | false => callP P f l (· = v) ∧ allClosed2 l = true
  | true => readN P f l H v
theorem rdP_pure {P : Program} {f : FuncId} (h : readFns.contains f = false) (l : List AVal) (H H' : Heap) (v : AVal) : rdP P f l H v = rdP P f l H' v := by
  unfold rdP
  rw [h]
theorem rdP_ext {P : Program} {f : FuncId} {l : List AVal} {H : Heap} {blk : Blk} {v : AVal} (h : rdP P f l H v) : rdP P f l (H ++ [blk]) v := by
  unfold rdP at h ⊢
  split at h
  · exact h
  · exact ⟨h.1, fun ext => by rw [List.append_assoc]; exact h.2 ([blk] ++ ext)⟩
def detC (P : Program) : CallH := fun f l tm H k => ∃ v, rdP P f l H v ∧ k tm v H
theorem detC_ok (P : Program) (n0 : Nat) : CallsOK P n0 (detC P) := fun f l tm H k ⟨v, h, hk⟩ => by
  unfold rdP at h
  split at h
  · obtain ⟨h, hl⟩ := h
    exact callT_of_N (callN_of_P h hl fun v' e => by rw [show v' = v from e]; exact hk)
  · have := h.2 []
    rw [List.append_nil] at this
    exact callT_of_N (callN_mono this fun x H' ⟨e1, e2⟩ => by subst e1 e2; exact hk)
def seenO : Op → List Operand
  | .move x | .assign x | .nilCheck x | .unOp _ _ x | .convert _ _ x | .fieldAddr _ x _ | .field _ x _ | .extract x _ | .load _ x | .box _ x => [x]
  | .pick c a b => [c, a, b]
  | .build _ parts => parts.toList.map (·.2)
  | .buildSlice _ _ parts => parts.toList.map (·.2)
  | .binOp _ _ x y _ => [x, y]
  | .index _ x i | .indexAddr _ x i => [x, i]
  | .sliceToArrayPointer _ x => [x]
  | .store _ a x => [a, x]
  | .makeFunc _ a b => a.toList ++ b.toList
  | .slice _ x lo hi _ => x :: (lo.toList ++ hi.toList)
  | .call ⟨.builtin _, args, _⟩ => args.toList
  | .call ⟨.value f, args, _⟩ => f :: args.toList
  | .makeSlice _ a b => [a, b]
  | _ => []
def seeO : Op → Bool
  | .move _ | .assign _ | .nilCheck _ | .unOp _ _ _ | .convert _ _ _ | .fieldAddr _ _ _ | .field _ _ _ | .extract _ _ | .load _ _ | .pick _ _ _ | .build _ _ | .binOp _ _ _ _ _ | .index _ _ _ | .indexAddr _ _ _ | .makeFunc _ _ _ | .slice _ _ _ _ none | .sliceToArrayPointer _ _ => true
  | .call ⟨.builtin .len, _, _⟩ | .call ⟨.builtin .min, _, _⟩ | .call ⟨.builtin .max, _, _⟩ | .call ⟨.value _, _, _⟩ => true
  | _ => false
def pureO : Op → Bool
  | .move _ | .assign _ | .nilCheck _ | .unOp _ _ _ | .fieldAddr _ _ _ | .field _ _ _ | .extract _ _ | .pick _ _ _ | .build _ _ | .binOp _ _ _ _ _ | .index _ _ _ | .makeFunc _ _ _ => true
  | .call ⟨.builtin .len, _, _⟩ | .call ⟨.builtin .min, _, _⟩ | .call ⟨.builtin .max, _, _⟩ => true
  | .call ⟨.value (.func f), _, _⟩ => !readFns.contains f
  | .call ⟨.value _, _, _⟩ => readFns.isEmpty
  | _ => false
def nilFirst : List Operand → Bool
  | [.const (.slice none 0 0), _] => true
  | _ => false
theorem nilFirst_iff {l : List Operand} (h : nilFirst l = true) : ∃ x, l = [.const (.slice none 0 0), x] := by
  unfold nilFirst at h
  split at h
  · exact ⟨_, rfl⟩
  · cases h
def allocO : Op → Bool
  | .alloc _ | .box _ _ | .buildSlice _ _ _ | .makeSlice _ _ _ => true
  | .call ⟨.builtin .append, args, _⟩ => nilFirst args.toList
  | _ => false
def storeO : Op → Bool
  | .store _ _ _ => true
  | _ => false
section
variable {P : Program} {T : TEnv}
def seeW (P : Program) (T : TEnv) (op : Op) (tm : List AVal) (H : Heap) (k : AVal → Prop) : Prop :=
  match op with
  | .call ⟨.value f, args, _⟩ => (match evalO tm f with
    | .fn (.func fid) first cap => evalL tm args.toList fun vs => appL first vs fun l => appL l cap fun l => ∃ v, rdP P fid l H v ∧ k v
    | _ => False)
  | .convert src dst x => convW T src dst H (evalO tm x) k (markW T src dst H (evalO tm x) k (readW T (.convert src dst x) tm H k))
  | _ => readW T op tm H k
theorem opW_see {n0 : Nat} {op : Op} {tm : List AVal} {H : Heap} {k : List AVal → AVal → Heap → Prop} (h : seeO op = true) : opW (detC P) T n0 op tm H k ↔ seeW P T op tm H fun v => k tm v H := by
  cases op with
  | call cl =>
    obtain ⟨f, args, ts⟩ := cl
    cases f with
    | value f => exact Iff.rfl
    | builtin b => cases b <;> first | exact Iff.rfl | exact absurd h Bool.false_ne_true
    | invoke a b => exact absurd h Bool.false_ne_true
  | slice t x lo hi mx => exact Iff.rfl
  | convert _ _ _ => exact Iff.rfl
  | _ => first | exact Iff.rfl | exact absurd h Bool.false_ne_true
theorem fillW_congr {place : Nat → Option (Nat × Nat)} {tm tm' : List AVal} : ∀ {ps : List (Nat × Operand)}, (∀ x ∈ ps.map (·.2), evalO tm x = evalO tm' x) → ∀ cells, fillW place tm ps cells = fillW place tm' ps cells
  | [], _, cells => rfl
  | (i, x) :: rest, h, cells => by
    funext k
    have hx := h x (by simp)
    have ih := fun cells => fillW_congr (place := place) (ps := rest) (fun y hy => h y (by simp at hy ⊢; exact .inr hy)) cells
    simp only [fillW, hx, ih]
theorem evalL_congr {tm tm' : List AVal} {xs : List Operand} (h : ∀ x ∈ xs, evalO tm x = evalO tm' x) : evalL tm xs = evalL tm' xs := by
  funext k
  refine propext ?_
  rw [evalL_iff, evalL_iff, List.map_congr_left h]
theorem opt_congr {tm tm' : List AVal} {o : Option Operand} (h : ∀ x ∈ o.toList, evalO tm x = evalO tm' x) : o.map (evalO tm) = o.map (evalO tm') := by
  cases o with
  | none => rfl
  | some x => simp [h x (by simp)]
theorem opW_congr {n0 : Nat} {op : Op} {tm tm' : List AVal} {H : Heap} {k : AVal → Heap → Prop} (hc : (seeO op || allocO op || storeO op) = true) (h : ∀ x ∈ seenO op, evalO tm x = evalO tm' x) :
    (opW (detC P) T n0 op tm H fun _ v H' => k v H') = opW (detC P) T n0 op tm' H fun _ v H' => k v H' := by
  cases op with
  | call cl =>
    obtain ⟨f, args, ts⟩ := cl
    cases f with
    | value f =>
      simp only [opW, detC, h f (by simp [seenO]), evalL_congr (xs := args.toList) fun x hx => h x (by simp [seenO]; exact .inr (by simpa using hx))]
    | builtin b =>
      have he := evalL_congr (tm := tm) (tm' := tm') (xs := args.toList) fun x hx => h x (by simpa [seenO] using hx)
      have hm : ∀ x ∈ args.toList, evalO tm x = evalO tm' x := fun x hx => h x (by simpa [seenO] using hx)
      cases b with
      | len =>
        simp only [opW, readW, pureW]
        generalize hl : args.toList = l at hm
        rcases l with _ | ⟨x, _ | ⟨_, _⟩⟩
        · rfl
        · have := hm x (by simp)
          rcases ts.toList with _ | ⟨t, _ | ⟨_, _⟩⟩
          · rfl
          · show lenW T t (evalO tm x) _ = lenW T t (evalO tm' x) _
            rw [this]
          · rfl
        · rfl
      | min => simp only [opW, readW, pureW, he]
      | max => simp only [opW, readW, pureW, he]
      | append =>
        obtain ⟨x, hx⟩ := nilFirst_iff (l := args.toList) (by simpa [seeO, allocO, storeO] using hc)
        have h1 : evalO tm x = evalO tm' x := hm x (by simp [hx])
        have h0 : ∀ tm : List AVal, evalO tm (.const (.slice none 0 0)) = .nilslice := fun _ => rfl
        have ha : ∀ (te : TI) (v : AVal), (appendW te n0 .nilslice v tm H fun _ v H' => k v H') = appendW te n0 .nilslice v tm' H fun _ v H' => k v H' := fun te v => by simp only [appendW]
        simp only [opW, hx, h0, h1, force_iff]
        generalize ts.toList = l
        rcases l with _ | ⟨t, _ | ⟨t2, _ | ⟨_, _⟩⟩⟩ <;> (try rfl)
        dsimp only
        simp only [h0, h1, ha]
      | _ => exact absurd hc Bool.false_ne_true
    | invoke a b => exact absurd hc Bool.false_ne_true
  | build t parts => simp only [opW, readW, pureW, fillW_congr (ps := parts.toList) h]
  | buildSlice t n parts =>
    simp only [opW, fillW_congr (ps := parts.toList) h, newSliceW]
  | makeFunc f a b =>
    simp only [opW, readW, pureW, evalL_congr (xs := a.toList) fun x hx => h x (by simp [seenO]; exact .inl (by simpa using hx)), evalL_congr (xs := b.toList) fun x hx => h x (by simp [seenO]; exact .inr (by simpa using hx))]
  | convert src dst x => simp only [opW, readW, pureW, h x (by simp [seenO])]
  | slice t x lo hi mx =>
    cases mx with
    | some m => exact absurd hc Bool.false_ne_true
    | none => simp only [opW, readW, pureW, h x (by simp [seenO]), opt_congr (o := lo) fun y hy => h y (by simp [seenO]; exact .inr (.inl (by simpa using hy))), opt_congr (o := hi) fun y hy => h y (by simp [seenO]; exact .inr (.inr (by simpa using hy)))]
  | _ =>
    first
      | exact absurd hc Bool.false_ne_true
      | (simp only [seenO, List.mem_cons, List.not_mem_nil, or_false, forall_eq_or_imp, forall_eq] at h
         simp only [opW, readW, pureW, h])
end
end Go.E
namespace Go.E
section
variable {P : Program} {T : TEnv}
theorem ang_readW (op : Op) (tm : List AVal) (H : Heap) : Ang (readW T op tm H) := by
  have h0 := ang_pureW T op tm
  show Ang (fun k => readW T op tm H k)
  cases op with
  | load t a =>
    simp only [readW]
    cases evalO tm a with
    | ptr a =>
      obtain ⟨b, i, j⟩ := a
      cases T[t]? with
      | none => exact ang_no
      | some ti =>
        show Ang (fun k : AVal → Prop => match H[b]? with
          | some (.cells cs) => partW ti cs (i + j) k
          | some (.ints kk l) => whenB (!ti.isAgg) (need (i + j < l.length) (k (.int kk (l.getD (i + j) 0))))
          | some (.rows _ n f) => need (i < n) (partW ti (f i) j k)
          | _ => False)
        cases H[b]? with
        | none => exact ang_no
        | some blk => cases blk <;> first | exact ang_no | exact ang_partW _ _ _ | exact ang_whenB (ang_need (ang_ret _)) | exact ang_need (ang_partW _ _ _)
    | roptr s n r i j => cases T[t]? <;> first | exact ang_no | exact ang_partW _ _ _
    | _ => exact ang_no
  | sliceToArrayPointer t x =>
    simp only [readW]
    cases T[t]? with
    | none => exact ang_no
    | some ti =>
      obtain ⟨s, b, d, z, p⟩ := ti
      cases d with
      | arr m e =>
        cases evalO tm x with
        | slice a n =>
          obtain ⟨b, i0, j0⟩ := a
          show Ang (fun k : AVal → Prop => match H[b]? with
            | some (.cells _) => need (0 < m ∧ m ≤ n) (k (.ptr ⟨b, i0, j0⟩))
            | _ => False)
          cases H[b]? with
          | none => exact ang_no
          | some blk => cases blk <;> first | exact ang_no | exact ang_need (ang_ret _)
        | _ => exact ang_no
      | _ => exact ang_no
  | indexAddr t x i =>
    have hp := ang_pureW T (.indexAddr t x i) tm
    simp only [readW]
    cases hT : T[t]? with
    | none => exact hp
    | some ti =>
      obtain ⟨s, b, d, z, p⟩ := ti
      cases d with
      | slice e =>
        cases hx : evalO tm x with
        | slice a n =>
          obtain ⟨b, i0, j0⟩ := a
          cases hi : evalO tm i with
          | int kk i =>
            show Ang (fun k : AVal → Prop => match sizeT T e, H[b]? with
              | some es, some (.cells _) => need (0 ≤ i ∧ i < n) (k (.ptr ⟨b, i0, j0 + i.toNat * es⟩))
              | some es, some (.ints _ _) => whenB (Nat.beq es 1) (need (0 ≤ i ∧ i < n) (k (.ptr ⟨b, i0 + i.toNat, j0⟩)))
              | some es, some (.rows sz _ _) => whenB (Nat.beq es sz) (need (0 ≤ i ∧ i < n) (k (.ptr ⟨b, i0 + i.toNat, j0⟩)))
              | _, _ => False)
            cases sizeT T e with
            | none => cases H[b]? <;> exact ang_no
            | some es =>
              cases H[b]? with
              | none => exact ang_no
              | some blk => cases blk <;> first | exact ang_no | exact ang_need (ang_ret _) | exact ang_whenB (ang_need (ang_ret _))
          | _ => exact hp
        | _ => exact hp
      | _ => exact hp
  | slice t x lo hi mx =>
    cases mx with
    | some m => exact h0
    | none =>
      have hp := ang_pureW T (.slice t x lo hi none) tm
      simp only [readW]
      cases hT : T[t]? with
      | none => exact hp
      | some ti =>
        obtain ⟨s, b, d, z, p⟩ := ti
        cases d with
        | slice e =>
          cases hx : evalO tm x with
          | slice a n =>
            obtain ⟨b, i0, j0⟩ := a
            show Ang (fun k : AVal → Prop => match sizeT T e, H[b]? with
              | some es, some (.cells _) => boundsW n (lo.map (evalO tm)) (hi.map (evalO tm)) fun l h => k (.slice ⟨b, i0, j0 + l * es⟩ (h - l))
              | some es, some (.ints _ _) => whenB (Nat.beq es 1) (boundsW n (lo.map (evalO tm)) (hi.map (evalO tm)) fun l h => k (.slice ⟨b, i0 + l, j0⟩ (h - l)))
              | some es, some (.rows sz _ _) => whenB (Nat.beq es sz) (boundsW n (lo.map (evalO tm)) (hi.map (evalO tm)) fun l h => k (.slice ⟨b, i0 + l, j0⟩ (h - l)))
              | _, _ => False)
            cases sizeT T e with
            | none => cases H[b]? <;> exact ang_no
            | some es =>
              cases H[b]? with
              | none => exact ang_no
              | some blk => cases blk <;> first | exact ang_no | exact ang_boundsW (fun l h => ang_ret _) _ _ _ | exact ang_whenB (ang_boundsW (fun l h => ang_ret _) _ _ _)
          | _ => exact hp
        | arr n e =>
          cases hx : evalO tm x with
          | ptr a =>
            obtain ⟨b, i0, j0⟩ := a
            show Ang (fun k : AVal → Prop => match sizeT T e, H[b]? with
              | some es, some (.cells _) => boundsW n (lo.map (evalO tm)) (hi.map (evalO tm)) fun l h => k (.slice ⟨b, i0, j0 + l * es⟩ (h - l))
              | _, _ => False)
            cases sizeT T e with
            | none => cases H[b]? <;> exact ang_no
            | some es =>
              cases H[b]? with
              | none => exact ang_no
              | some blk => cases blk <;> first | exact ang_no | exact ang_boundsW (fun l h => ang_ret _) _ _ _
          | _ => exact hp
        | _ => exact hp
  | _ => exact h0
theorem ang_srcW {β : Type} {es : Nat} {H : Heap} {x : AVal} {G : Nat → (Nat → List AVal) → (β → Prop) → Prop} (hG : ∀ m row, Ang (G m row)) : Ang (fun k => srcW es H x fun m row => G m row k) := by
  unfold srcW
  cases x with
  | ro sz m row => exact ang_whenB (hG m row)
  | nilslice => exact hG _ _
  | slice a m =>
    obtain ⟨b, i0, j⟩ := a
    cases j with
    | succ j => exact ang_no
    | zero =>
      show Ang (fun k : β → Prop => match H[b]? with
        | some (.ints kk l) => whenB (Nat.beq es 1) (need (i0 + m ≤ l.length) (G m (fun i => [.int kk (l.getD (i0 + i) 0)]) k))
        | some (.rows sz n f) => whenB (Nat.beq sz es) (need (i0 + m ≤ n) (G m (fun i => f (i0 + i)) k))
        | _ => False)
      cases H[b]? with
      | none => exact ang_no
      | some blk => cases blk <;> first | exact ang_no | exact ang_whenB (ang_need (hG _ _))
  | str s => exact ang_whenB (hG _ _)
  | _ => exact ang_no
theorem ang_markW {src dst : Nat} {H : Heap} {x : AVal} {F : (AVal → Prop) → Prop} (hF : Ang F) : Ang (fun k => markW T src dst H x k (F k)) := by
  unfold markW
  cases Nat.beq src dst with
  | false => exact hF
  | true =>
    cases T[src]? with
    | none => exact hF
    | some ti =>
      obtain ⟨s, b, d, z, p⟩ := ti
      cases d with
      | slice e =>
        cases x with
        | slice a n =>
          obtain ⟨b, i0, j0⟩ := a
          show Ang (fun k : AVal → Prop => match T[e]?, H[b]? with
            | some ⟨_, _, .int .u8, _, _⟩, some (.ints _ _) => need (0 < n) (k (.slice ⟨b, i0, j0⟩ n))
            | _, _ => False)
          split
          · exact ang_need (ang_ret _)
          · exact ang_no
        | _ => exact hF
      | _ => exact hF
theorem ang_convW {src dst : Nat} {H : Heap} {x : AVal} {F : (AVal → Prop) → Prop} (hF : Ang F) : Ang (fun k => convW T src dst H x k (F k)) := by
  unfold convW
  cases T[src]? with
  | none => exact hF
  | some ti =>
    obtain ⟨s, b, d, z, p⟩ := ti
    cases d with
    | slice e =>
      cases T[dst]? with
      | none => exact hF
      | some ti =>
        obtain ⟨s', b', d', z', p'⟩ := ti
        cases d' with
        | str =>
          show Ang (fun k : AVal → Prop => match T[e]? with
            | some ⟨_, _, .int .u8, _, _⟩ => noStr x (srcW 1 H x fun m row => need (isRow .u8 m row) (k (.str (bytesI (rowsInts .u8 m row)))))
            | _ => False)
          cases T[e]? with
          | none => exact ang_no
          | some ti =>
            obtain ⟨s2, b2, d2, z2, p2⟩ := ti
            cases d2 with
            | int kk =>
              cases kk with
              | u8 =>
                show Ang (fun k : AVal → Prop => noStr x (srcW 1 H x fun m row => need (isRow .u8 m row) (k (.str (bytesI (rowsInts .u8 m row))))))
                unfold noStr
                cases x <;> first | exact ang_no | exact ang_srcW fun m row => ang_need (ang_ret _)
              | _ => exact ang_no
            | _ => exact ang_no
        | _ => exact hF
    | _ => exact hF
theorem ang_appL {α : Type} (a b : List α) : Ang (appL a b) := ang_iff (fun _ => appL_iff) (ang_ret _)
theorem ang_seeW (op : Op) (tm : List AVal) (H : Heap) : Ang (seeW P T op tm H) := by
  have h0 := ang_readW (T := T) op tm H
  show Ang (fun k => seeW P T op tm H k)
  cases op with
  | call cl =>
    obtain ⟨f, args, ts⟩ := cl
    cases f with
    | value f =>
      simp only [seeW]
      cases evalO tm f with
      | fn f a b =>
        cases f with
        | func fid =>
          refine ang_bind (ang_evalL _ _) fun vs => ang_bind (ang_appL _ _) fun l => ang_bind (ang_appL _ _) fun l => ?_
          exact ⟨fun v => rdP P fid l H v, fun k => Iff.rfl⟩
        | _ => exact ang_no
      | _ => exact ang_no
    | _ => exact h0
  | convert src dst x => exact ang_convW (ang_markW h0)
  | _ => exact h0
theorem see_pure {op : Op} (h : pureO op = true) {tm : List AVal} {H H' : Heap} {k : AVal → Prop} : seeW P T op tm H k = seeW P T op tm H' k := by
  cases op with
  | call cl =>
    obtain ⟨f, args, ts⟩ := cl
    cases f with
    | value f =>
      have all : readFns.isEmpty = true → ∀ fid l v, rdP P fid l H v = rdP P fid l H' v := fun he fid l v => rdP_pure (by rw [List.isEmpty_iff.1 he]; rfl) l H H' v
      cases f with
      | func g =>
        have hg : readFns.contains g = false := by
          have : (!readFns.contains g) = true := h
          simpa using this
        have e := fun l v => rdP_pure (P := P) hg l H H' v
        simp only [seeW, evalO, e]
      | _ =>
        have e := all h
        simp only [seeW, e]
    | builtin b => cases b <;> first | rfl | exact absurd h Bool.false_ne_true
    | invoke a b => exact absurd h Bool.false_ne_true
  | _ => first | rfl | exact absurd h Bool.false_ne_true
theorem get_ext {H : Heap} {b : Nat} {blk x : Blk} (h : H[b]? = some x) : (H ++ [blk])[b]? = some x := by
  rw [List.getElem?_append_left (List.getElem?_eq_some_iff.1 h).1]
  exact h
theorem src_ext {es : Nat} {H : Heap} {blk : Blk} {x : AVal} {K : Nat → (Nat → List AVal) → Prop} (h : srcW es H x K) : srcW es (H ++ [blk]) x K := by
  unfold srcW at h ⊢
  split at h
  · exact h
  · exact h
  · rename_i b i0 m
    cases hb : H[b]? with
    | none => rw [hb] at h; exact False.elim h
    | some x =>
      rw [hb] at h
      simp only [get_ext hb]
      exact h
  · exact h
  · exact False.elim h
theorem mark_ext {src dst : Nat} {H : Heap} {blk : Blk} {x : AVal} {k : AVal → Prop} {F : Prop} (h : markW T src dst H x k F) : markW T src dst (H ++ [blk]) x k F := by
  unfold markW at h ⊢
  revert h
  cases Nat.beq src dst with
  | false => exact fun h => h
  | true =>
    cases hT : T[src]? with
    | none => exact fun h => h
    | some ti =>
      intro h
      obtain ⟨s, b, d, z, p⟩ := ti
      cases d with
      | slice e =>
        cases x with
        | slice a n =>
          obtain ⟨b, i0, j0⟩ := a
          cases hb : H[b]? with
          | none => simp only [hb] at h; split at h <;> first | exact h.elim | (rename_i hq; cases hq)
          | some y =>
            simp only [hb] at h
            simp only [get_ext hb]
            exact h
        | _ => exact h
      | _ => exact h
theorem conv_ext {src dst : Nat} {H : Heap} {blk : Blk} {x : AVal} {k : AVal → Prop} {F F' : Prop} (hF : F → F') (h : convW T src dst H x k F) : convW T src dst (H ++ [blk]) x k F' := by
  unfold convW at h ⊢
  split at h
  · split at h
    · unfold noStr at h ⊢
      split at h
      · exact False.elim h
      · exact src_ext h
    · exact False.elim h
  · exact hF h
theorem see_ext {op : Op} {tm : List AVal} {H : Heap} {blk : Blk} {k : AVal → Prop} (h : seeW P T op tm H k) : seeW P T op tm (H ++ [blk]) k := by
  cases op with
  | call cl =>
    obtain ⟨f, args, ts⟩ := cl
    cases f with
    | value f =>
      simp only [seeW] at h ⊢
      cases hf : evalO tm f with
      | fn g a b =>
        rw [hf] at h
        cases g with
        | func fid =>
          simp only [evalL_iff, appL_iff] at h ⊢
          obtain ⟨v, hv, hk⟩ := h
          exact ⟨v, rdP_ext hv, hk⟩
        | _ => exact h
      | _ => rw [hf] at h; exact h
    | _ => exact h
  | convert src dst x => exact conv_ext (fun h => mark_ext h) h
  | load t a =>
    simp only [seeW, readW] at h ⊢
    cases he : evalO tm a with
    | ptr a =>
      obtain ⟨b, i, j⟩ := a
      rw [he] at h
      cases hT : T[t]? with
      | none => simp [hT] at h
      | some ti =>
        simp only [hT] at h ⊢
        cases hb : H[b]? with
        | none => simp [hb] at h
        | some x =>
          rw [get_ext hb]
          rw [hb] at h
          exact h
    | roptr s n r i j => rw [he] at h; cases hT : T[t]? <;> (rw [hT] at h; exact h)
    | _ => rw [he] at h; exact h
  | sliceToArrayPointer t x =>
    simp only [seeW, readW] at h ⊢
    split at h
    · rename_i m e z p b i0 j0 n h1 h2
      cases hb : H[b]? with
      | none => rw [hb] at h; exact h.elim
      | some y =>
        rw [get_ext hb]
        rw [hb] at h
        exact h
    · exact h
  | indexAddr t x i =>
    simp only [seeW, readW] at h ⊢
    split at h
    · rename_i e z p b i0 j0 n kk i h1 h2 h3
      cases hb : H[b]? with
      | none => rw [hb] at h; cases hs : sizeT T e <;> (rw [hs] at h; exact False.elim h)
      | some x =>
        rw [get_ext hb]
        rw [hb] at h
        exact h
    · exact h
  | slice t x lo hi mx =>
    cases mx with
    | some m => exact h
    | none =>
      simp only [seeW, readW] at h ⊢
      split at h
      · rename_i e z p b i0 j0 n h1 h2
        cases hb : H[b]? with
        | none => rw [hb] at h; cases hs : sizeT T e <;> (rw [hs] at h; exact False.elim h)
        | some x =>
          rw [get_ext hb]
          rw [hb] at h
          exact h
      · rename_i n e z p b i0 j0 h1 h2
        cases hb : H[b]? with
        | none => rw [hb] at h; cases hs : sizeT T e <;> (rw [hs] at h; exact False.elim h)
        | some x =>
          rw [get_ext hb]
          rw [hb] at h
          exact h
      · exact h
  | _ => exact h
end
end Go.E
namespace Go.E
def okO (op : Op) : Bool := seeO op || allocO op || storeO op
section
variable {P : Program} {T : TEnv} {n0 : Nat}
def zW (P : Program) (T : TEnv) (n0 : Nat) (op : Op) (tm : List AVal) (H : Heap) (k : AVal × Heap → Prop) : Prop := opW (detC P) T n0 op tm H fun _ v H' => k (v, H')
theorem opW_tm {op : Op} (hc : okO op = true) {tm : List AVal} {H : Heap} {k : List AVal → AVal → Heap → Prop} : opW (detC P) T n0 op tm H k ↔ zW P T n0 op tm H fun r => k tm r.1 r.2 := by
  cases op with
  | call cl =>
    obtain ⟨f, args, ts⟩ := cl
    cases f with
    | value f => exact Iff.rfl
    | builtin b =>
      cases b with
      | append =>
        obtain ⟨x, hx⟩ := nilFirst_iff (l := args.toList) (by simpa [okO, seeO, allocO, storeO] using hc)
        have h0 : evalO tm (.const (.slice none 0 0)) = .nilslice := rfl
        simp only [zW, opW, hx, h0, force_iff]
        generalize ts.toList = l
        rcases l with _ | ⟨t, _ | ⟨t2, _ | ⟨_, _⟩⟩⟩ <;> exact Iff.rfl
      | _ => first | exact Iff.rfl | exact absurd hc Bool.false_ne_true
    | invoke a b => exact absurd hc Bool.false_ne_true
  | _ => first | exact Iff.rfl | exact absurd hc Bool.false_ne_true
theorem ang_intsW (kk : IntKind) : ∀ (cs : List AVal), Ang (intsW kk cs)
  | [] => ang_ret _
  | v :: r => by
    show Ang (fun k => intsW kk (v :: r) k)
    cases v with
    | int k' n =>
      unfold intsW
      cases sameKind kk k'
      · exact ang_no
      · exact ang_bind (ang_intsW kk r) fun l => ang_ret _
    | _ => exact ang_no
theorem ang_newW {β : Type} {G : Nat → Heap → (β → Prop) → Prop} (hG : ∀ n H, Ang (G n H)) (H : Heap) (b : Blk) : Ang (fun k => newW H b fun n H' => G n H' k) :=
  ang_iff (fun _ => newW_iff) (hG _ _)
theorem ang_newSliceW (te : TI) (n : Nat) (cs tm : List AVal) (H : Heap) : Ang (fun k : AVal × Heap → Prop => newSliceW te n cs tm H fun _ v H' => k (v, H')) := by
  unfold newSliceW
  cases te.desc with
  | int kk => exact ang_whenB (ang_bind (ang_intsW _ _) fun l => ang_choice (ang_ret _) (ang_newW (fun _ _ => ang_ret _) _ _))
  | _ =>
    dsimp only
    cases allClosed cs with
    | true => exact ang_choice (ang_ret _) (ang_newW (fun _ _ => ang_ret _) _ _)
    | false => exact ang_newW (fun _ _ => ang_ret _) _ _
theorem ang_storeW (H : Heap) (a v : AVal) : Ang (storeW H a v) := by
  show Ang (fun k => storeW H a v k)
  cases a with
  | ptr a =>
    obtain ⟨b, i, j⟩ := a
    unfold storeW
    dsimp only
    cases H[b]? with
    | none => exact ang_no
    | some blk =>
      cases blk with
      | cells cs => exact ang_bind (ang_spliceL _ _ _) fun cs' => ang_setL _ _ _
      | ints kk l => cases v <;> first | exact ang_no | exact ang_whenB (ang_need (ang_setL _ _ _))
      | rows sz n f => exact ang_whenB (ang_bind (ang_lenL _) fun m => ang_need (ang_setL _ _ _))
      | _ => exact ang_no
  | _ => exact ang_no
theorem ang_appNil (te : TI) (n0 : Nat) (x : AVal) (tm : List AVal) (H : Heap) : Ang (fun k : AVal × Heap → Prop => appendW te n0 .nilslice x tm H fun _ v H' => k (v, H')) := by
  unfold appendW
  refine ang_srcW fun m row => ang_need ?_
  cases te.desc with
  | int kk => exact ang_whenB (ang_need (ang_choice (ang_ret _) (ang_newW (fun _ _ => ang_ret _) _ _)))
  | _ => exact ang_choice (ang_ret _) (ang_newW (fun _ _ => ang_ret _) _ _)
theorem ang_zW {op : Op} (hc : okO op = true) (tm : List AVal) (H : Heap) : Ang (zW P T n0 op tm H) := by
  by_cases hs : seeO op = true
  · refine ang_iff (G := fun k => seeW P T op tm H fun v => k (v, H)) (fun k => opW_see hs) (ang_bind (ang_seeW op tm H) fun v => ang_ret _)
  show Ang (fun k => zW P T n0 op tm H k)
  cases op with
  | alloc t =>
    show Ang (fun k : AVal × Heap → Prop => match T[t]? with | some ⟨_, _, _, some z, _⟩ => allocW t z fun blk => newW H blk fun b H' => k (.ptr ⟨b, 0, 0⟩, H') | _ => False)
    cases T[t]? with
    | none => exact ang_no
    | some ti =>
      obtain ⟨s, b, d, z, p⟩ := ti
      cases z with
      | none => exact ang_no
      | some z =>
        show Ang (fun k : AVal × Heap → Prop => allocW t z fun blk => newW H blk fun b H' => k (.ptr ⟨b, 0, 0⟩, H'))
        unfold allocW
        split
        · exact ang_newW (fun _ _ => ang_ret _) _ _
        · split
          · split <;> exact ang_newW (fun _ _ => ang_ret _) _ _
          · exact ang_newW (fun _ _ => ang_ret _) _ _
  | box t x =>
    show Ang (fun k : AVal × Heap → Prop => force (evalO tm x) fun v => whenB (allOne v.cells) (newW H (.cells v.cells) fun b H' => k (.ptr ⟨b, 0, 0⟩, H')))
    exact ang_bind (ang_force _) fun v => ang_whenB (ang_newW (fun _ _ => ang_ret _) _ _)
  | buildSlice t n parts =>
    simp only [zW, opW]
    cases T[t]? with
    | none => exact ang_no
    | some ti =>
      obtain ⟨s, b, d, z, p⟩ := ti
      cases d with
      | slice e =>
        dsimp only
        cases T[e]? with
        | none => exact ang_no
        | some te =>
          dsimp only
          cases te.zero with
          | none => exact ang_no
          | some z => exact ang_whenB (ang_whenB (ang_bind (ang_lenL _) fun m => ang_whenB (ang_bind (ang_timesL _ _) fun z => ang_bind (ang_fillW _ _ _ _) fun cs => ang_newSliceW _ _ _ _ _)))
      | _ => exact ang_no
  | makeSlice t x y =>
    simp only [zW, opW]
    cases T[t]? with
    | none => exact ang_no
    | some ti =>
      obtain ⟨s, b, d, z, p⟩ := ti
      cases d with
      | slice e =>
        cases evalO tm x <;> cases evalO tm y <;> (try exact ang_no)
        dsimp only
        cases T[e]? with
        | none => exact ang_no
        | some te =>
          obtain ⟨s', b', d', z', p'⟩ := te
          cases z' with
          | none => exact ang_no
          | some z =>
            refine ang_need ?_
            cases d' with
            | int kk =>
              rcases z with _ | ⟨v, _ | ⟨_, _⟩⟩ <;> (try cases v) <;> first
                | exact ang_no
                | exact ang_whenB (ang_whenB (ang_choice (ang_ret _) (ang_newW (fun _ _ => ang_ret _) _ _)))
            | _ => exact ang_whenB (ang_bind (ang_lenL _) fun m => ang_whenB (ang_whenB (ang_choice (ang_ret _) (ang_newW (fun _ _ => ang_ret _) _ _))))
      | _ => cases evalO tm x <;> cases evalO tm y <;> exact ang_no
  | store t a x =>
    simp only [zW, opW]
    cases sizeT T t with
    | none => exact ang_no
    | some n => exact ang_whenB (ang_bind (ang_force _) fun v => ang_whenB (ang_bind (ang_lenL _) fun m => ang_whenB (ang_bind (ang_storeW _ _ _) fun H' => ang_ret _)))
  | call cl =>
    obtain ⟨f, args, ts⟩ := cl
    cases f with
    | builtin b =>
      cases b with
      | append =>
        obtain ⟨x, hx⟩ := nilFirst_iff (l := args.toList) (by simpa [okO, seeO, allocO, storeO] using hc)
        have h0 : evalO tm (.const (.slice none 0 0)) = .nilslice := rfl
        simp only [zW, opW, hx, h0, force_iff]
        generalize ts.toList = l
        rcases l with _ | ⟨t, _ | ⟨t2, _ | ⟨_, _⟩⟩⟩
        · exact ang_no
        · exact ang_no
        · dsimp only
          cases T[t]? with
          | none => exact ang_no
          | some ti =>
            obtain ⟨s, b, d, z, p⟩ := ti
            cases d with
            | slice e =>
              cases T[t2]? with
              | none => exact ang_no
              | some ti2 =>
                dsimp only
                cases T[e]? with
                | none => exact ang_no
                | some te =>
                  dsimp only
                  cases te.zero with
                  | none => exact ang_no
                  | some z => exact ang_whenB (ang_whenB (ang_whenB (ang_bind (ang_lenL _) fun m => ang_whenB (ang_appNil te n0 (evalO tm x) tm H))))
            | _ => cases T[t2]? <;> exact ang_no
        · exact ang_no
      | _ => exact (by simp_all [okO, allocO, storeO] : False).elim
    | _ => exact (by simp_all [okO, allocO, storeO] : False).elim
  | _ => exact (by simp_all [okO, allocO, storeO] : False).elim
end
end Go.E
namespace Go.E
section
variable {P : Program} {T : TEnv} {n0 : Nat}
theorem ext_newSlice {te : TI} {n : Nat} {cs tm : List AVal} {H : Heap} {k : AVal × Heap → Prop} (h : newSliceW te n cs tm H fun _ v H' => k (v, H')) :
    newSliceW te n cs tm H fun _ v H' => k (v, H') ∧ (H' = H ∨ ∃ b, H' = H ++ [b]) := by
  have both : ∀ {v v' : AVal} {b : Blk}, choice (k (v, H)) (newW H b fun n H' => k (.slice ⟨n, 0, 0⟩ te.size, H')) → True := fun _ => trivial
  unfold newSliceW at h ⊢
  split at h
  · obtain ⟨h1, h⟩ := whenB_iff.1 h
    refine whenB_iff.2 ⟨h1, ?_⟩
    obtain ⟨R, hR⟩ := ang_intsW (by assumption) cs
    obtain ⟨l, hl, h⟩ := (hR _).1 h
    refine (hR _).2 ⟨l, hl, ?_⟩
    rcases choice_iff.1 h with h | h
    · exact choice_iff.2 (.inl ⟨h, .inl rfl⟩)
    · rw [newW_iff] at h
      exact choice_iff.2 (.inr (newW_iff.2 ⟨h, .inr ⟨_, rfl⟩⟩))
  · split at h
    · rcases choice_iff.1 h with h | h
      · exact choice_iff.2 (.inl ⟨h, .inl rfl⟩)
      · rw [newW_iff] at h
        exact choice_iff.2 (.inr (newW_iff.2 ⟨h, .inr ⟨_, rfl⟩⟩))
    · rw [newW_iff] at h
      exact newW_iff.2 ⟨h, .inr ⟨_, rfl⟩⟩
theorem ext_appNil {te : TI} {x : AVal} {tm : List AVal} {H : Heap} {k : AVal × Heap → Prop} (h : appendW te n0 .nilslice x tm H fun _ v H' => k (v, H')) :
    appendW te n0 .nilslice x tm H fun _ v H' => k (v, H') ∧ (H' = H ∨ ∃ b, H' = H ++ [b]) := by
  unfold appendW at h ⊢
  have mono : ∀ {K K' : Nat → (Nat → List AVal) → Prop}, (∀ m row, K m row → K' m row) → srcW te.size H x K → srcW te.size H x K' := fun {K K'} hk h => by
    obtain ⟨R, hR⟩ := ang_srcW (β := Nat × (Nat → List AVal)) (es := te.size) (H := H) (x := x) (G := fun m row k => k (m, row)) (fun m row => ang_ret _)
    obtain ⟨r, hr, h⟩ := (hR fun r => K r.1 r.2).1 h
    exact (hR fun r => K' r.1 r.2).2 ⟨r, hr, hk _ _ h⟩
  refine mono (fun m row h => ?_) h
  obtain ⟨h1, h⟩ := need_iff.1 h
  refine need_iff.2 ⟨h1, ?_⟩
  have fin : ∀ {v : AVal} {b : Blk} {v' : Nat → AVal}, choice (k (v, H)) (newW H b fun n H' => k (v' n, H')) → choice (k (v, H) ∧ (H = H ∨ ∃ b, H = H ++ [b])) (newW H b fun n H' => k (v' n, H') ∧ (H' = H ∨ ∃ b, H' = H ++ [b])) := fun {v b v'} h => by
    rcases choice_iff.1 h with h | h
    · exact choice_iff.2 (.inl ⟨h, .inl rfl⟩)
    · rw [newW_iff] at h
      exact choice_iff.2 (.inr (newW_iff.2 ⟨h, .inr ⟨_, rfl⟩⟩))
  split at h
  · obtain ⟨h2, h⟩ := whenB_iff.1 h
    obtain ⟨h3, h⟩ := need_iff.1 h
    exact whenB_iff.2 ⟨h2, need_iff.2 ⟨h3, fin (v' := fun n => .slice ⟨n, 0, 0⟩ m) h⟩⟩
  · exact fin (v' := fun n => .slice ⟨n, 0, 0⟩ m) h
theorem ext_alloc {op : Op} (hc : allocO op = true) {tm : List AVal} {H : Heap} {k : AVal × Heap → Prop} (h : zW P T n0 op tm H k) :
    zW P T n0 op tm H fun r => k r ∧ (r.2 = H ∨ ∃ b, r.2 = H ++ [b]) := by
  cases op with
  | alloc t =>
    simp only [zW, opW] at h ⊢
    split at h
    · unfold allocW at h ⊢
      split at h
      · rw [newW_iff] at h ⊢
        exact ⟨h, .inr ⟨_, rfl⟩⟩
      · split at h
        · split at h <;> (rw [newW_iff] at h ⊢; exact ⟨h, .inr ⟨_, rfl⟩⟩)
        · rw [newW_iff] at h ⊢
          exact ⟨h, .inr ⟨_, rfl⟩⟩
    · exact h.elim
  | box t x =>
    simp only [zW, opW, force_iff] at h ⊢
    obtain ⟨h1, h⟩ := whenB_iff.1 h
    rw [newW_iff] at h
    exact whenB_iff.2 ⟨h1, newW_iff.2 ⟨h, .inr ⟨_, rfl⟩⟩⟩
  | buildSlice t n parts =>
    simp only [zW, opW] at h ⊢
    split at h
    · split at h
      · split at h
        · rename_i te _ _ z hz
          obtain ⟨h1, h⟩ := whenB_iff.1 h
          obtain ⟨h2, h⟩ := whenB_iff.1 h
          rw [lenL_iff] at h
          obtain ⟨h3, h⟩ := whenB_iff.1 h
          rw [timesL_iff] at h
          refine whenB_iff.2 ⟨h1, whenB_iff.2 ⟨h2, lenL_iff.2 (whenB_iff.2 ⟨h3, timesL_iff.2 ?_⟩)⟩⟩
          obtain ⟨R, hR⟩ := ang_fillW (fun i => some (i * te.size, te.size)) tm parts.toList ((List.replicate n z).flatten)
          obtain ⟨cs, hcs, h⟩ := (hR _).1 h
          exact (hR _).2 ⟨cs, hcs, ext_newSlice h⟩
        · exact h.elim
      · exact h.elim
    · exact h.elim
  | makeSlice t x y =>
    simp only [zW, opW] at h ⊢
    split at h
    · split at h
      · obtain ⟨h1, h⟩ := need_iff.1 h
        refine need_iff.2 ⟨h1, ?_⟩
        split at h
        · obtain ⟨h2, h⟩ := whenB_iff.1 h
          obtain ⟨h3, h⟩ := whenB_iff.1 h
          refine whenB_iff.2 ⟨h2, whenB_iff.2 ⟨h3, ?_⟩⟩
          rcases choice_iff.1 h with h | h
          · exact choice_iff.2 (.inl ⟨h, .inl (by trivial)⟩)
          · rw [newW_iff] at h
            exact choice_iff.2 (.inr (newW_iff.2 ⟨h, .inr ⟨_, rfl⟩⟩))
        · exact h.elim
        · obtain ⟨h2, h⟩ := whenB_iff.1 h
          rw [lenL_iff] at h
          obtain ⟨h3, h⟩ := whenB_iff.1 h
          obtain ⟨h4, h⟩ := whenB_iff.1 h
          refine whenB_iff.2 ⟨h2, lenL_iff.2 (whenB_iff.2 ⟨h3, whenB_iff.2 ⟨h4, ?_⟩⟩)⟩
          rcases choice_iff.1 h with h | h
          · exact choice_iff.2 (.inl ⟨h, .inl (by trivial)⟩)
          · rw [newW_iff] at h
            exact choice_iff.2 (.inr (newW_iff.2 ⟨h, .inr ⟨_, rfl⟩⟩))
      · exact h.elim
    · exact h.elim
  | call cl =>
    obtain ⟨f, args, ts⟩ := cl
    cases f with
    | builtin b =>
      cases b with
      | append =>
        obtain ⟨x, hx⟩ := nilFirst_iff (l := args.toList) (by simpa [allocO] using hc)
        have h0 : evalO tm (.const (.slice none 0 0)) = .nilslice := rfl
        simp only [zW, opW, hx, h0, force_iff] at h ⊢
        generalize ts.toList = l at h ⊢
        rcases l with _ | ⟨t, _ | ⟨t2, _ | ⟨_, _⟩⟩⟩
        · exact h.elim
        · exact h.elim
        · dsimp only at h ⊢
          split at h
          · split at h
            · split at h
              · obtain ⟨h1, h⟩ := whenB_iff.1 h
                obtain ⟨h2, h⟩ := whenB_iff.1 h
                obtain ⟨h3, h⟩ := whenB_iff.1 h
                rw [lenL_iff] at h
                obtain ⟨h4, h⟩ := whenB_iff.1 h
                exact whenB_iff.2 ⟨h1, whenB_iff.2 ⟨h2, whenB_iff.2 ⟨h3, lenL_iff.2 (whenB_iff.2 ⟨h4, ext_appNil h⟩)⟩⟩⟩
              · exact h.elim
            · exact h.elim
          · exact h.elim
        · exact h.elim
      | _ => exact absurd hc Bool.false_ne_true
    | _ => exact absurd hc Bool.false_ne_true
  | _ => exact absurd hc Bool.false_ne_true
def putL (tm : List AVal) (d : Option Nat) (v : AVal) : List AVal := match d with
  | some d => tm.set d v
  | none => tm
theorem putW_iff {tm : List AVal} {d : Option Nat} {v : AVal} {K : List AVal → Prop} : putW tm d v K ↔ K (putL tm d v) := by
  cases d with
  | none => exact Iff.rfl
  | some d => exact setL_iff
def noneOf (d : Nat) : List Operand → Bool
  | [] => true
  | .tmp t :: r => match Nat.beq t d with | true => false | false => noneOf d r
  | _ :: r => noneOf d r
def freeO (d : Option Nat) (xs : List Operand) : Bool := match d with
  | none => true
  | some d => noneOf d xs
theorem free_eval {d : Option Nat} {xs : List Operand} (h : freeO d xs = true) (tm : List AVal) (v : AVal) : ∀ x ∈ xs, evalO (putL tm d v) x = evalO tm x := by
  cases d with
  | none => exact fun _ _ => rfl
  | some d =>
    simp only [freeO] at h
    induction xs with
    | nil => simp
    | cons y r ih =>
      intro x hx
      rcases List.mem_cons.1 hx with rfl | hx
      · cases x with
        | tmp t =>
          unfold noneOf at h
          split at h
          · cases h
          · rename_i hb
            have : t ≠ d := Nat.ne_of_beq_eq_false hb
            simp only [evalO, putL]
            rw [List.getD_eq_getElem?_getD, List.getD_eq_getElem?_getD, List.getElem?_set, if_neg (fun e => this e.symm)]
        | _ => rfl
      · refine ih ?_ x hx
        cases y with
        | tmp t =>
          unfold noneOf at h
          split at h
          · cases h
          · exact h
        | _ => exact h
def dstNe : Option Nat → Option Nat → Bool
  | some a, some b => !Nat.beq a b
  | _, _ => true
theorem put_comm {d e : Option Nat} (h : dstNe d e = true) (tm : List AVal) (u v : AVal) : putL (putL tm d u) e v = putL (putL tm e v) d u := by
  cases d <;> cases e <;> try rfl
  rename_i a b
  simp only [putL]
  refine List.set_comm _ _ fun hab => ?_
  subst hab
  simp [dstNe] at h
def shapeB : Blk → Blk
  | .cells _ => .cells []
  | .ints k _ => .ints k []
  | .rows sz _ _ => .rows sz 0 fun _ => []
  | b => b
def kindO : Op → Bool
  | .slice _ _ _ _ none | .sliceToArrayPointer _ _ | .indexAddr _ _ _ => true
  | _ => false
def SameH (H H' : Heap) : Prop := ∀ b : Nat, (H[b]?).map shapeB = (H'[b]?).map shapeB
theorem see_kind {op : Op} (h : kindO op = true) {tm : List AVal} {H H' : Heap} (hs : SameH H H') {k : AVal → Prop} : seeW P T op tm H k = seeW P T op tm H' k := by
  cases op with
  | slice t x lo hi mx =>
    cases mx with
    | some _ => cases h
    | none =>
      show readW T (.slice t x lo hi none) tm H k = readW T (.slice t x lo hi none) tm H' k
      simp only [readW]
      cases ht : T[t]? with
      | none => rfl
      | some ti =>
        obtain ⟨_, _, d, _, _⟩ := ti
        cases hx : evalO tm x with
        | slice q n =>
          obtain ⟨b, i0, j0⟩ := q
          have e := hs b
          cases d <;> try rfl
          rename_i e1
          dsimp only
          cases q2 : H[b]? <;> cases q3 : H'[b]? <;> rw [q2, q3] at e <;> try (first | rfl | cases e)
          rename_i y z
          cases hz : sizeT T e1 <;> cases y <;> cases z <;> first | rfl | (simp [shapeB] at e; done) | (simp [shapeB] at e; subst e; rfl) | skip
        | ptr q =>
          obtain ⟨b, i0, j0⟩ := q
          have e := hs b
          cases d <;> try rfl
          rename_i e1
          dsimp only
          cases q2 : H[b]? <;> cases q3 : H'[b]? <;> rw [q2, q3] at e <;> try (first | rfl | cases e)
          rename_i y z
          cases hz : sizeT T e1 <;> cases y <;> cases z <;> first | rfl | (simp [shapeB] at e; done) | (simp [shapeB] at e; subst e; rfl) | skip
        | _ => cases d <;> rfl
  | sliceToArrayPointer t x =>
    show readW T (.sliceToArrayPointer t x) tm H k = readW T (.sliceToArrayPointer t x) tm H' k
    simp only [readW]
    cases ht : T[t]? with
    | none => rfl
    | some ti =>
      obtain ⟨_, _, d, _, _⟩ := ti
      cases hx : evalO tm x with
      | slice q n =>
        obtain ⟨b, i0, j0⟩ := q
        have e := hs b
        cases d <;> try rfl
        dsimp only
        cases q2 : H[b]? <;> cases q3 : H'[b]? <;> rw [q2, q3] at e <;> try (first | rfl | cases e)
        rename_i y z
        cases y <;> cases z <;> first | rfl | (simp [shapeB] at e; done)
      | _ => cases d <;> rfl
  | indexAddr t x i =>
    show readW T (.indexAddr t x i) tm H k = readW T (.indexAddr t x i) tm H' k
    simp only [readW]
    cases ht : T[t]? with
    | none => rfl
    | some ti =>
      obtain ⟨_, _, d, _, _⟩ := ti
      cases hx : evalO tm x with
      | slice q n =>
        obtain ⟨b, i0, j0⟩ := q
        have e := hs b
        cases d <;> cases hi : evalO tm i <;> try rfl
        rename_i e1 _ _
        dsimp only
        cases q2 : H[b]? <;> cases q3 : H'[b]? <;> rw [q2, q3] at e <;> try (first | rfl | cases e)
        rename_i y z
        cases hz : sizeT T e1 <;> cases y <;> cases z <;> first | rfl | (simp [shapeB] at e; done) | (simp [shapeB] at e; subst e; rfl) | skip
      | _ => cases d <;> cases hi : evalO tm i <;> rfl
  | _ => cases h
theorem same_set {H : Heap} {b : Nat} {x y : Blk} (hx : H[b]? = some x) (h : shapeB y = shapeB x) : SameH (H.set b y) H := by
  intro c
  rw [List.getElem?_set]
  split
  · rename_i e
    subst e
    rw [if_pos (List.getElem?_eq_some_iff.1 hx).1, hx]
    exact congrArg some h
  · rfl
theorem store_same {op : Op} (hc : storeO op = true) {tm : List AVal} {H : Heap} {k : AVal × Heap → Prop} (h : zW P T n0 op tm H k) :
    zW P T n0 op tm H fun r => k r ∧ SameH r.2 H := by
  cases op with
  | store t a x =>
    simp only [zW, opW] at h ⊢
    split at h
    · rw [whenB_iff] at h ⊢
      refine ⟨h.1, ?_⟩
      have h := h.2
      rw [force_iff] at h ⊢
      rw [whenB_iff] at h ⊢
      refine ⟨h.1, ?_⟩
      have h := h.2
      rw [lenL_iff] at h ⊢
      rw [whenB_iff] at h ⊢
      refine ⟨h.1, ?_⟩
      have h := h.2
      unfold storeW at h ⊢
      cases ha : evalO tm a with
      | ptr q =>
        obtain ⟨b, i, j⟩ := q
        rw [ha] at h
        cases hb : H[b]? with
        | none => simp only [hb] at h
        | some y =>
          simp only [hb] at h ⊢
          cases y with
          | cells cs =>
            simp only [setL_iff] at h ⊢
            obtain ⟨R, hR⟩ := ang_spliceL (i + j) (evalO tm x).cells cs
            obtain ⟨c, r, hk⟩ := (hR _).1 h
            exact (hR _).2 ⟨c, r, hk, same_set hb rfl⟩
          | ints kk l =>
            simp only at h ⊢
            cases hv : evalO tm x with
            | int k' n =>
              rw [hv] at h
              simp only [whenB_iff, need_iff, setL_iff] at h ⊢
              exact ⟨h.1, h.2.1, h.2.2, same_set hb rfl⟩
            | _ => rw [hv] at h; exact h.elim
          | rows sz n f =>
            simp only [whenB_iff, lenL_iff, need_iff, setL_iff] at h ⊢
            exact ⟨h.1, h.2.1, h.2.2, same_set hb rfl⟩
          | _ => exact h.elim
      | _ => rw [ha] at h; exact h.elim
    · exact h.elim
  | _ => cases hc
def passes (x z : Oper) : Bool :=
  okO x.op && okO z.op && freeO x.dst (seenO z.op) && freeO z.dst (seenO x.op) && dstNe x.dst z.dst && ((seeO x.op && (pureO x.op || seeO z.op || allocO z.op || (kindO x.op && storeO z.op))) || (seeO z.op && (pureO z.op || (kindO z.op && storeO x.op))))
def oneW (C : CallH) (T : TEnv) (n0 : Nat) (o : Oper) (tm : List AVal) (H : Heap) (K : List AVal → Heap → Prop) : Prop :=
  opW C T n0 o.op tm H fun tm v H => putW tm o.dst v fun tm => K tm H
theorem one_zW {o : Oper} (h : okO o.op = true) {tm : List AVal} {H : Heap} {K : List AVal → Heap → Prop} : oneW (detC P) T n0 o tm H K ↔ zW P T n0 o.op tm H fun r => K (putL tm o.dst r.1) r.2 := by
  unfold oneW
  rw [opW_tm h]
  have : (fun r : AVal × Heap => putW tm o.dst r.1 fun tm => K tm r.2) = fun r => K (putL tm o.dst r.1) r.2 := by
    funext r
    exact propext putW_iff
  rw [this]
theorem zW_congr {op : Op} (hc : okO op = true) {tm tm' : List AVal} {H : Heap} {k : AVal × Heap → Prop} (h : ∀ x ∈ seenO op, evalO tm x = evalO tm' x) : zW P T n0 op tm H k = zW P T n0 op tm' H k :=
  opW_congr hc h
theorem zW_mono {op : Op} (hc : okO op = true) {tm : List AVal} {H : Heap} {k k' : AVal × Heap → Prop} (h : zW P T n0 op tm H k) (hk : ∀ r, k r → k' r) : zW P T n0 op tm H k' := by
  obtain ⟨R, hR⟩ := ang_zW (P := P) (T := T) (n0 := n0) hc tm H
  obtain ⟨r, h1, h2⟩ := (hR _).1 h
  exact (hR _).2 ⟨r, h1, hk r h2⟩
theorem one_mono {o : Oper} (hc : okO o.op = true) {tm : List AVal} {H : Heap} {K K' : List AVal → Heap → Prop} (h : oneW (detC P) T n0 o tm H K) (hk : ∀ tm H, K tm H → K' tm H) : oneW (detC P) T n0 o tm H K' := by
  rw [one_zW hc] at h ⊢
  exact zW_mono hc h fun r h => hk _ _ h
theorem swap_ok {x z : Oper} (hp : passes x z = true) {tm : List AVal} {H : Heap} {K : List AVal → Heap → Prop} (h : oneW (detC P) T n0 x tm H fun tm H => oneW (detC P) T n0 z tm H K) :
    oneW (detC P) T n0 z tm H fun tm H => oneW (detC P) T n0 x tm H K := by
  simp only [passes, Bool.and_eq_true, Bool.or_eq_true] at hp
  obtain ⟨⟨⟨⟨⟨hx, hz⟩, hfx⟩, hfz⟩, hd⟩, hcls⟩ := hp
  simp only [one_zW hx, one_zW hz] at h ⊢
  have ex : ∀ v H k, zW P T n0 z.op (putL tm x.dst v) H k = zW P T n0 z.op tm H k := fun v H k => zW_congr hz (free_eval hfx tm v)
  have ez : ∀ v H k, zW P T n0 x.op (putL tm z.dst v) H k = zW P T n0 x.op tm H k := fun v H k => zW_congr hx (free_eval hfz tm v)
  simp only [ex] at h
  simp only [ez]
  obtain ⟨R, hR⟩ := ang_zW (P := P) (T := T) (n0 := n0) hx tm H
  rcases hcls with ⟨hsx, hcls⟩ | ⟨hsz, hpz⟩
  · -- x changes nothing
    have hxs : ∀ H k, zW P T n0 x.op tm H k ↔ seeW P T x.op tm H fun v => k (v, H) := fun H k => opW_see hsx
    rw [hxs] at h
    obtain ⟨S, hS⟩ := ang_seeW (P := P) (T := T) x.op tm H
    obtain ⟨v, hv, h⟩ := (hS _).1 h
    have key : zW P T n0 z.op tm H fun r => K (putL (putL tm x.dst v) z.dst r.1) r.2 ∧ seeW P T x.op tm r.2 (· = v) := by
      have h0 : seeW P T x.op tm H (· = v) := (hS _).2 ⟨v, hv, rfl⟩
      rcases hcls with ((hcls | hcls) | hcls) | ⟨hk, hst⟩
      · exact zW_mono hz h fun r hr => ⟨hr, by rw [see_pure hcls (H' := H)]; exact h0⟩
      · have hzs : ∀ k, zW P T n0 z.op tm H k ↔ seeW P T z.op tm H fun v => k (v, H) := fun k => opW_see hcls
        rw [hzs] at h ⊢
        obtain ⟨S', hS'⟩ := ang_seeW (P := P) (T := T) z.op tm H
        obtain ⟨u, hu, h⟩ := (hS' _).1 h
        exact (hS' _).2 ⟨u, hu, h, h0⟩
      · refine zW_mono hz (ext_alloc hcls h) fun r hr => ⟨hr.1, ?_⟩
        rcases hr.2 with e | ⟨b, e⟩
        · rw [e]; exact h0
        · rw [e]; exact see_ext h0
      · exact zW_mono hz (store_same hst h) fun r hr => ⟨hr.1, by rw [see_kind hk hr.2]; exact h0⟩
    refine zW_mono hz key fun r hr => ?_
    rw [hxs]
    obtain ⟨S2, hS2⟩ := ang_seeW (P := P) (T := T) x.op tm r.2
    obtain ⟨w, hw, e⟩ := (hS2 _).1 hr.2
    refine (hS2 _).2 ⟨w, hw, ?_⟩
    rw [show w = v from e, put_comm hd] at *
    exact hr.1
  · -- z looks at no memory
    have hzs : ∀ H k, zW P T n0 z.op tm H k ↔ seeW P T z.op tm H fun v => k (v, H) := fun H k => opW_see hsz
    have h2 := show zW P T n0 x.op tm H fun r => (zW P T n0 z.op tm r.2 fun r' => K (putL (putL tm x.dst r.1) z.dst r'.1) r'.2) ∧ ∀ k, seeW P T z.op tm H k = seeW P T z.op tm r.2 k by
      rcases hpz with hpz | ⟨hk, hst⟩
      · exact zW_mono hx h fun r hr => ⟨hr, fun k => see_pure hpz⟩
      · exact zW_mono hx (store_same hst h) fun r hr => ⟨hr.1, fun k => (see_kind hk hr.2).symm⟩
    obtain ⟨r, hr, h, hq⟩ := (hR _).1 h2
    rw [hzs] at h ⊢
    obtain ⟨S, hS⟩ := ang_seeW (P := P) (T := T) z.op tm r.2
    obtain ⟨u, hu, h⟩ := (hS _).1 h
    have h0 : seeW P T z.op tm H (· = u) := by
      rw [hq]
      exact (hS _).2 ⟨u, hu, rfl⟩
    obtain ⟨S2, hS2⟩ := ang_seeW (P := P) (T := T) z.op tm H
    obtain ⟨w, hw, e⟩ := (hS2 _).1 h0
    refine (hS2 _).2 ⟨w, hw, (hR _).2 ⟨r, hr, ?_⟩⟩
    rw [show w = u from e]
    rw [put_comm hd] at h
    exact h
end
end Go.E
namespace Go.E
def predsO (o : Oper) : List Nat := (o.after.toList.filter (Region.binds .any)).map (·.on)
def predsAt (all : List Oper) (i : Nat) : List Nat := match all[i]? with
  | some o => predsO o
  | none => []
inductive Before (all : List Oper) : Nat → Nat → Prop
  | one {x z : Nat} (h : x ∈ predsAt all z) : Before all x z
  | more {x p z : Nat} (h : Before all x p) (h' : p ∈ predsAt all z) : Before all x z
def ReadyR (all : List Oper) (R : List Nat) (i : Nat) : Prop := ∀ p ∈ predsAt all i, p ∉ R
def UpR (all : List Oper) (R : List Nat) : Prop := ∀ y ∈ R, ∀ z, Before all y z → z ∈ R
section
variable {P : Program} {T : TEnv} {n0 : Nat} {all : List Oper}
def exploreW (P : Program) (T : TEnv) (n0 : Nat) (all : List Oper) : Nat → List Nat → List AVal → Heap → (List AVal → Heap → Prop) → Prop
  | 0, R, tm, H, Q => R = [] ∧ Q tm H
  | n + 1, R, tm, H, Q =>
    (∃ x o, x ∈ R ∧ ReadyR all R x ∧ all[x]? = some o ∧ (∀ z ∈ R, z ≠ x → Before all x z ∨ ∃ oz, all[z]? = some oz ∧ passes o oz = true) ∧ oneW (detC P) T n0 o tm H fun tm H => exploreW P T n0 all n (R.erase x) tm H Q) ∨
    ((∃ z ∈ R, ReadyR all R z) ∧ ∀ z ∈ R, ReadyR all R z → ∃ o, all[z]? = some o ∧ oneW (detC P) T n0 o tm H fun tm H => exploreW P T n0 all n (R.erase z) tm H Q)
theorem not_before {R : List Nat} {y z : Nat} (hr : ReadyR all R z) (hu : UpR all R) (hy : y ∈ R) : ¬ Before all y z := fun h => by
  cases h with
  | one h => exact hr y h hy
  | more h h' => exact hr _ h' (hu y hy _ h)
theorem up_erase {R : List Nat} {x : Nat} (hn : R.Nodup) (hr : ReadyR all R x) (hu : UpR all R) : UpR all (R.erase x) := fun y hy z hb => by
  have hy' := List.mem_of_mem_erase hy
  rw [hn.mem_erase_iff]
  refine ⟨fun e => ?_, hu y hy' z hb⟩
  subst e
  exact not_before hr hu hy' hb
theorem ready_erase {R : List Nat} {x z : Nat} (hr : ReadyR all R z) : ReadyR all (R.erase x) z := fun p hp hm => hr p hp (List.mem_of_mem_erase hm)
theorem explore_front (Q : List AVal → Heap → Prop) : ∀ (n : Nat) (R : List Nat) (tm : List AVal) (H : Heap) (z : Nat), R.Nodup → UpR all R → z ∈ R → ReadyR all R z → exploreW P T n0 all (n + 1) R tm H Q →
    ∃ o, all[z]? = some o ∧ oneW (detC P) T n0 o tm H fun tm H => exploreW P T n0 all n (R.erase z) tm H Q := by
  intro n
  induction n with
  | zero =>
    intro R tm H z hn hu hz hr h
    rcases h with ⟨x, o, hx, hrx, ho, hp, h⟩ | ⟨_, h⟩
    · by_cases hxz : z = x
      · subst hxz; exact ⟨o, ho, h⟩
      · exfalso
        rcases hp z hz hxz with hb | ⟨oz, hoz, hpass⟩
        · exact not_before hr hu hx hb
        · have hok : okO o.op = true := by
            simp only [passes, Bool.and_eq_true] at hpass
            exact hpass.1.1.1.1.1
          rw [one_zW hok] at h
          obtain ⟨S, hS⟩ := ang_zW (P := P) (T := T) (n0 := n0) hok tm H
          obtain ⟨r, _, h0, _⟩ := (hS _).1 h
          have : z ∈ R.erase x := (hn.mem_erase_iff).2 ⟨hxz, hz⟩
          rw [h0] at this
          cases this
    · exact h z hz hr
  | succ n ih =>
    intro R tm H z hn hu hz hr h
    rcases h with ⟨x, o, hx, hrx, ho, hp, h⟩ | ⟨_, h⟩
    · by_cases hxz : z = x
      · subst hxz; exact ⟨o, ho, h⟩
      · rcases hp z hz hxz with hb | ⟨oz, hoz, hpass⟩
        · exact (not_before hr hu hx hb).elim
        · have hok : okO o.op = true ∧ okO oz.op = true := by
            simp only [passes, Bool.and_eq_true] at hpass
            exact ⟨hpass.1.1.1.1.1, hpass.1.1.1.1.2⟩
          have h1 : oneW (detC P) T n0 o tm H fun tm H => oneW (detC P) T n0 oz tm H fun tm H => exploreW P T n0 all n ((R.erase x).erase z) tm H Q := by
            refine one_mono hok.1 h fun tm1 H1 h1 => ?_
            obtain ⟨oz', hoz', h2⟩ := ih (R.erase x) tm1 H1 z (hn.erase x) (up_erase hn hrx hu) ((hn.mem_erase_iff).2 ⟨hxz, hz⟩) (ready_erase hr) h1
            rw [hoz] at hoz'
            cases hoz'
            exact h2
          refine ⟨oz, hoz, one_mono hok.2 (swap_ok hpass h1) fun tm1 H1 h2 => ?_⟩
          refine .inl ⟨x, o, (hn.mem_erase_iff).2 ⟨fun e => hxz e.symm, hx⟩, ready_erase hrx, ho, fun y hy hyx => hp y (List.mem_of_mem_erase hy) hyx, ?_⟩
          rw [List.erase_comm]
          exact h2
    · exact h z hz hr
theorem any_ok (hT : TOK P T) {c0 : Cx} (hG : GOK c0) {ops : Array Oper} {Q : AQ} (hg : ∀ o ∈ ops.toList, o.guard = none) (hin : ∀ i, ∀ p ∈ predsAt ops.toList i, p < ops.size) :
    ∀ (n : Nat) (R : List Nat) (listed : Array Bool) (tm : List AVal) (c : Cx) (a : Act), listed.size = ops.size → (∀ i, i ∈ R ↔ i < ops.size ∧ listed.getD i true = false) → R.Nodup → R.length = n → UpR ops.toList R →
      Fr c0 c → SR c tm a → exploreW P T c0.H.length ops.toList n R tm c.H (Q .normal) → wpAny P .any ops (Post c0 Q) n listed a c.w := by
  intro n
  have toR : ∀ {R : List Nat} {listed : Array Bool} {i : Nat}, (∀ i, i ∈ R ↔ i < ops.size ∧ listed.getD i true = false) → i ∈ Region.ready .any ops listed → i ∈ R ∧ ReadyR ops.toList R i := by
    intro R listed i hR hi
    simp only [Region.ready, List.mem_filter, List.mem_range, Bool.and_eq_true, Bool.not_eq_true'] at hi
    obtain ⟨hlt, hl, hall⟩ := hi
    refine ⟨(hR i).2 ⟨hlt, hl⟩, fun p hp hm => ?_⟩
    have ho : ops[i]? = some ops[i] := Array.getElem?_eq_getElem hlt
    rw [ho] at hall
    simp only [predsAt, Array.getElem?_toList, ho, predsO, List.mem_map, List.mem_filter] at hp
    obtain ⟨e, ⟨he, hb⟩, rfl⟩ := hp
    simp only [Option.map_some, Option.getD_some, Array.all_eq_true'] at hall
    have := hall e (by simpa using he)
    rw [hb] at this
    simp only [Bool.not_true, Bool.false_or] at this
    have h2 := ((hR _).1 hm).2
    rw [Array.getD_eq_getD_getElem?] at this h2
    cases hq : listed[e.on]? with
    | none => rw [hq] at this; simp at this
    | some b => rw [hq] at this h2; simp at this h2; rw [this] at h2; cases h2
  induction n with
  | zero =>
    intro R listed tm c a hs hR hn hl hu hf hsr h
    obtain ⟨h0, h⟩ := h
    subst h0
    refine ⟨?_, post_mk .normal h hf hsr⟩
    cases hr : Region.ready .any ops listed with
    | nil => rfl
    | cons i r => exact absurd (toR hR (i := i) (by rw [hr]; simp)).1 (by simp)
  | succ n ih =>
    intro R listed tm c a hs hR hn hl hu hf hsr h
    have hex : ∃ z ∈ R, ReadyR ops.toList R z := by
      rcases h with ⟨x, o, hx, hrx, _⟩ | ⟨h, _⟩
      · exact ⟨x, hx, hrx⟩
      · exact h
    refine ⟨fun h0 => ?_, fun i hi => ?_⟩
    · exfalso
      obtain ⟨z, hz, hrz⟩ := hex
      have : z ∈ Region.ready .any ops listed := by
        simp only [Region.ready, List.mem_filter, List.mem_range, Bool.and_eq_true, Bool.not_eq_true']
        obtain ⟨hlt, hlz⟩ := (hR z).1 hz
        refine ⟨hlt, hlz, ?_⟩
        have ho : ops[z]? = some ops[z] := Array.getElem?_eq_getElem hlt
        rw [ho]
        simp only [Option.map_some, Option.getD_some, Array.all_eq_true']
        intro e he
        cases hb : Region.binds .any e with
        | false => rfl
        | true =>
          have hp : e.on ∈ predsAt ops.toList z := by
            simp only [predsAt, Array.getElem?_toList, ho, predsO, List.mem_map, List.mem_filter]
            exact ⟨e, ⟨by simpa using he, hb⟩, rfl⟩
          have h1 := hrz _ hp
          have h2 := hin _ _ hp
          rw [hR] at h1
          have h3 : listed[e.on]? = some (listed[e.on]'(by omega)) := Array.getElem?_eq_getElem _
          rw [Array.getD_eq_getD_getElem?, h3] at h1 ⊢
          simp only [Option.getD_some, Bool.not_true, Bool.false_or] at h1 ⊢
          simp only [h2, true_and, Bool.not_eq_false] at h1
          exact h1
      rw [h0] at this
      cases this
    · obtain ⟨hiR, hri⟩ := toR hR hi
      obtain ⟨o, ho, h1⟩ := explore_front (Q .normal) n R tm c.H i hn hu hiR hri h
      have ho' : ops[i]? = some o := by rw [← Array.getElem?_toList]; exact ho
      simp only [wpOp, ho']
      rw [if_pos (by simp [Region.wanted, hg o (List.mem_of_getElem? ho)])]
      refine .inl (oper_wp hT (detC_ok P _) hG (K := fun tm H => exploreW P T c0.H.length ops.toList n (R.erase i) tm H (Q .normal)) (fun c tm a hf hsr h => ?_) hf hsr h1)
      refine ih (R.erase i) _ tm c a (by simp [hs]) (fun j => ?_) (hn.erase i) (by rw [List.length_erase_of_mem hiR]; omega) (up_erase hn hri hu) hf hsr h
      rw [hn.mem_erase_iff, hR]
      rw [Array.getD_eq_getD_getElem?, Array.getD_eq_getD_getElem?, Array.getElem?_setIfInBounds]
      by_cases hj : i = j
      · subst hj
        have hlt := ((hR i).1 hiR).1
        simp [hs, hlt]
      · simp [hj]
        omega
end
end Go.E
namespace Go.E
def statG (all : List Oper) (tm : List AVal) (o : Oper) : Option Bool := match o.guard with
  | none => some true
  | some (j, want) => match dstOf all j with
    | none => none
    | some d => match tm.getD d .any with
      | .bool b => some (b == want)
      | .tuple [] => some false
      | _ => none
def gslot (all : List Oper) (o : Oper) : Option Nat := match o.guard with
  | none => none
  | some (j, _) => dstOf all j
def passesG (all : List Oper) (x z : Oper) : Bool := passes x z && dstNe x.dst (gslot all z) && dstNe z.dst (gslot all x)
section
variable {P : Program} {T : TEnv} {n0 : Nat} {all : List Oper}
def oneG (P : Program) (T : TEnv) (n0 : Nat) (all : List Oper) (o : Oper) (tm : List AVal) (H : Heap) (K : List AVal → Heap → Prop) : Prop := match statG all tm o with
  | none => False
  | some true => oneW (detC P) T n0 o tm H K
  | some false => K (putL tm o.dst (.tuple [])) H
theorem stat_put {d : Option Nat} {o : Oper} (h : dstNe d (gslot all o) = true) (tm : List AVal) (v : AVal) : statG all (putL tm d v) o = statG all tm o := by
  unfold statG
  unfold gslot at h
  split
  · rfl
  · rename_i j want hg
    rw [hg] at h
    simp only at h
    split
    · rfl
    · rename_i e he
      rw [he] at h
      have : (putL tm d v).getD e .any = tm.getD e .any := by
        cases d with
        | none => rfl
        | some d =>
          simp only [putL]
          rw [List.getD_eq_getElem?_getD, List.getD_eq_getElem?_getD, List.getElem?_set, if_neg]
          intro e'
          subst e'
          simp [dstNe] at h
      rw [this]
theorem oneG_out {o : Oper} (h : okO o.op = true) {tm : List AVal} {H : Heap} {K : List AVal → Heap → Prop} (hk : oneG P T n0 all o tm H K) : ∃ tm' H', K tm' H' := by
  unfold oneG at hk
  split at hk
  · exact hk.elim
  · rw [one_zW h] at hk
    obtain ⟨S, hS⟩ := ang_zW (P := P) (T := T) (n0 := n0) h tm H
    obtain ⟨r, _, h0⟩ := (hS _).1 hk
    exact ⟨_, _, h0⟩
  · exact ⟨_, _, hk⟩
theorem oneG_mono {o : Oper} (hc : okO o.op = true) {tm : List AVal} {H : Heap} {K K' : List AVal → Heap → Prop} (h : oneG P T n0 all o tm H K) (hk : ∀ tm H, K tm H → K' tm H) : oneG P T n0 all o tm H K' := by
  unfold oneG at h ⊢
  split at h
  · exact h.elim
  · exact one_mono hc h hk
  · exact hk _ _ h
theorem swapG {x z : Oper} (hp : passesG all x z = true) {tm : List AVal} {H : Heap} {K : List AVal → Heap → Prop} (h : oneG P T n0 all x tm H fun tm H => oneG P T n0 all z tm H K) :
    oneG P T n0 all z tm H fun tm H => oneG P T n0 all x tm H K := by
  simp only [passesG, Bool.and_eq_true] at hp
  obtain ⟨⟨hp, hxz⟩, hzx⟩ := hp
  have hp0 := hp
  simp only [passes, Bool.and_eq_true, Bool.or_eq_true] at hp
  obtain ⟨⟨⟨⟨⟨hx, hz⟩, hfx⟩, hfz⟩, hd⟩, _⟩ := hp
  have sz : ∀ v, statG all (putL tm x.dst v) z = statG all tm z := fun v => stat_put hxz tm v
  have sx : ∀ v, statG all (putL tm z.dst v) x = statG all tm x := fun v => stat_put hzx tm v
  unfold oneG at h ⊢
  cases ex : statG all tm x with
  | none => rw [ex] at h; exact h.elim
  | some bx =>
    rw [ex] at h
    cases bx with
    | true =>
      simp only at h
      rw [one_zW hx] at h
      simp only [sz] at h
      cases ez : statG all tm z with
      | none =>
        rw [ez] at h
        obtain ⟨S, hS⟩ := ang_zW (P := P) (T := T) (n0 := n0) hx tm H
        obtain ⟨r, _, h0⟩ := (hS _).1 h
        exact h0
      | some bz =>
        rw [ez] at h
        cases bz with
        | true =>
          simp only at h ⊢
          have h2 : oneW (detC P) T n0 x tm H fun tm H => oneW (detC P) T n0 z tm H K := (one_zW hx).2 h
          have h3 := swap_ok hp0 h2
          rw [one_zW hz] at h3 ⊢
          simp only [sx, ex]
          exact h3
        | false =>
          simp only at h ⊢
          rw [sx, ex]
          simp only
          rw [one_zW hx, zW_congr hx (free_eval hfz tm _)]
          simp only [put_comm hd] at h
          exact h
    | false =>
      simp only at h
      rw [sz] at h
      cases ez : statG all tm z with
      | none => rw [ez] at h; exact h.elim
      | some bz =>
        rw [ez] at h
        cases bz with
        | true =>
          simp only at h ⊢
          rw [one_zW hz, zW_congr hz (free_eval hfx tm _)] at h
          rw [one_zW hz]
          simp only [sx, ex]
          simp only [put_comm hd] at h
          exact h
        | false =>
          simp only at h ⊢
          rw [sx, ex]
          simp only
          rw [put_comm hd] at h
          exact h
def exploreG (P : Program) (T : TEnv) (n0 : Nat) (all : List Oper) : Nat → List Nat → List AVal → Heap → (List AVal → Heap → Prop) → Prop
  | 0, R, tm, H, Q => R = [] ∧ ∃ tm' H', WeakS n0 tm H tm' H' ∧ Q tm' H'
  | n + 1, R, tm, H, Q =>
    (∃ x o, x ∈ R ∧ ReadyR all R x ∧ all[x]? = some o ∧ (∀ z ∈ R, z ≠ x → Before all x z ∨ ∃ oz, all[z]? = some oz ∧ passesG all o oz = true) ∧ oneG P T n0 all o tm H fun tm H => exploreG P T n0 all n (R.erase x) tm H Q) ∨
    ((∃ z ∈ R, ReadyR all R z) ∧ ∀ z ∈ R, ReadyR all R z → ∃ o, all[z]? = some o ∧ oneG P T n0 all o tm H fun tm H => exploreG P T n0 all n (R.erase z) tm H Q)
theorem explore_frontG (Q : List AVal → Heap → Prop) : ∀ (n : Nat) (R : List Nat) (tm : List AVal) (H : Heap) (z : Nat), R.Nodup → UpR all R → z ∈ R → ReadyR all R z → exploreG P T n0 all (n + 1) R tm H Q →
    ∃ o, all[z]? = some o ∧ oneG P T n0 all o tm H fun tm H => exploreG P T n0 all n (R.erase z) tm H Q := by
  intro n
  induction n with
  | zero =>
    intro R tm H z hn hu hz hr h
    rcases h with ⟨x, o, hx, hrx, ho, hp, h⟩ | ⟨_, h⟩
    · by_cases hxz : z = x
      · subst hxz; exact ⟨o, ho, h⟩
      · exfalso
        rcases hp z hz hxz with hb | ⟨oz, hoz, hpass⟩
        · exact not_before hr hu hx hb
        · have hok : okO o.op = true := by
            simp only [passesG, passes, Bool.and_eq_true] at hpass
            exact hpass.1.1.1.1.1.1.1
          obtain ⟨_, _, h0, _⟩ := oneG_out hok h
          have : z ∈ R.erase x := (hn.mem_erase_iff).2 ⟨hxz, hz⟩
          rw [h0] at this
          cases this
    · exact h z hz hr
  | succ n ih =>
    intro R tm H z hn hu hz hr h
    rcases h with ⟨x, o, hx, hrx, ho, hp, h⟩ | ⟨_, h⟩
    · by_cases hxz : z = x
      · subst hxz; exact ⟨o, ho, h⟩
      · rcases hp z hz hxz with hb | ⟨oz, hoz, hpass⟩
        · exact (not_before hr hu hx hb).elim
        · have hok : okO o.op = true ∧ okO oz.op = true := by
            simp only [passesG, passes, Bool.and_eq_true] at hpass
            exact ⟨hpass.1.1.1.1.1.1.1, hpass.1.1.1.1.1.1.2⟩
          have h1 : oneG P T n0 all o tm H fun tm H => oneG P T n0 all oz tm H fun tm H => exploreG P T n0 all n ((R.erase x).erase z) tm H Q := by
            refine oneG_mono hok.1 h fun tm1 H1 h1 => ?_
            obtain ⟨oz', hoz', h2⟩ := ih (R.erase x) tm1 H1 z (hn.erase x) (up_erase hn hrx hu) ((hn.mem_erase_iff).2 ⟨hxz, hz⟩) (ready_erase hr) h1
            rw [hoz] at hoz'
            cases hoz'
            exact h2
          refine ⟨oz, hoz, oneG_mono hok.2 (swapG hpass h1) fun tm1 H1 h2 => ?_⟩
          refine .inl ⟨x, o, (hn.mem_erase_iff).2 ⟨fun e => hxz e.symm, hx⟩, ready_erase hrx, ho, fun y hy hyx => hp y (List.mem_of_mem_erase hy) hyx, ?_⟩
          rw [List.erase_comm]
          exact h2
    · exact h z hz hr
theorem any_okG (hT : TOK P T) {c0 : Cx} (hG : GOK c0) {ops : Array Oper} {Q : AQ} (hin : ∀ i, ∀ p ∈ predsAt ops.toList i, p < ops.size) :
    ∀ (n : Nat) (R : List Nat) (listed : Array Bool) (tm : List AVal) (c : Cx) (a : Act), listed.size = ops.size → (∀ i, i ∈ R ↔ i < ops.size ∧ listed.getD i true = false) → R.Nodup → R.length = n → UpR ops.toList R →
      Fr c0 c → SR c tm a → exploreG P T c0.H.length ops.toList n R tm c.H (Q .normal) → wpAny P .any ops (Post c0 Q) n listed a c.w := by
  intro n
  have toR : ∀ {R : List Nat} {listed : Array Bool} {i : Nat}, (∀ i, i ∈ R ↔ i < ops.size ∧ listed.getD i true = false) → i ∈ Region.ready .any ops listed → i ∈ R ∧ ReadyR ops.toList R i := by
    intro R listed i hR hi
    simp only [Region.ready, List.mem_filter, List.mem_range, Bool.and_eq_true, Bool.not_eq_true'] at hi
    obtain ⟨hlt, hl, hall⟩ := hi
    refine ⟨(hR i).2 ⟨hlt, hl⟩, fun p hp hm => ?_⟩
    have ho : ops[i]? = some ops[i] := Array.getElem?_eq_getElem hlt
    rw [ho] at hall
    simp only [predsAt, Array.getElem?_toList, ho, predsO, List.mem_map, List.mem_filter] at hp
    obtain ⟨e, ⟨he, hb⟩, rfl⟩ := hp
    simp only [Option.map_some, Option.getD_some, Array.all_eq_true'] at hall
    have := hall e (by simpa using he)
    rw [hb] at this
    simp only [Bool.not_true, Bool.false_or] at this
    have h2 := ((hR _).1 hm).2
    rw [Array.getD_eq_getD_getElem?] at this h2
    cases hq : listed[e.on]? with
    | none => rw [hq] at this; simp at this
    | some b => rw [hq] at this h2; simp at this h2; rw [this] at h2; cases h2
  induction n with
  | zero =>
    intro R listed tm c a hs hR hn hl hu hf hsr h
    obtain ⟨h0, tm', H', hw, h⟩ := h
    subst h0
    obtain ⟨c', ew, eh, hf', hsr'⟩ := hw c0 c a rfl hf hsr rfl
    refine ⟨?_, by rw [← ew]; exact post_mk .normal (by rw [eh]; exact h) hf' hsr'⟩
    cases hr : Region.ready .any ops listed with
    | nil => rfl
    | cons i r => exact absurd (toR hR (i := i) (by rw [hr]; simp)).1 (by simp)
  | succ n ih =>
    intro R listed tm c a hs hR hn hl hu hf hsr h
    have hex : ∃ z ∈ R, ReadyR ops.toList R z := by
      rcases h with ⟨x, o, hx, hrx, _⟩ | ⟨h, _⟩
      · exact ⟨x, hx, hrx⟩
      · exact h
    refine ⟨fun h0 => ?_, fun i hi => ?_⟩
    · exfalso
      obtain ⟨z, hz, hrz⟩ := hex
      have : z ∈ Region.ready .any ops listed := by
        simp only [Region.ready, List.mem_filter, List.mem_range, Bool.and_eq_true, Bool.not_eq_true']
        obtain ⟨hlt, hlz⟩ := (hR z).1 hz
        refine ⟨hlt, hlz, ?_⟩
        have ho : ops[z]? = some ops[z] := Array.getElem?_eq_getElem hlt
        rw [ho]
        simp only [Option.map_some, Option.getD_some, Array.all_eq_true']
        intro e he
        cases hb : Region.binds .any e with
        | false => rfl
        | true =>
          have hp : e.on ∈ predsAt ops.toList z := by
            simp only [predsAt, Array.getElem?_toList, ho, predsO, List.mem_map, List.mem_filter]
            exact ⟨e, ⟨by simpa using he, hb⟩, rfl⟩
          have h1 := hrz _ hp
          have h2 := hin _ _ hp
          rw [hR] at h1
          have h3 : listed[e.on]? = some (listed[e.on]'(by omega)) := Array.getElem?_eq_getElem _
          rw [Array.getD_eq_getD_getElem?, h3] at h1 ⊢
          simp only [Option.getD_some, Bool.not_true, Bool.false_or] at h1 ⊢
          simp only [h2, true_and, Bool.not_eq_false] at h1
          exact h1
      rw [h0] at this
      cases this
    · obtain ⟨hiR, hri⟩ := toR hR hi
      obtain ⟨o, ho, h1⟩ := explore_frontG (Q .normal) n R tm c.H i hn hu hiR hri h
      have ho' : ops[i]? = some o := by rw [← Array.getElem?_toList]; exact ho
      simp only [wpOp, ho']
      have next : ∀ (c : Cx) (tm : List AVal) (a : Act), Fr c0 c → SR c tm a → exploreG P T c0.H.length ops.toList n (R.erase i) tm c.H (Q .normal) → wpAny P .any ops (Post c0 Q) n (listed.setIfInBounds i true) a c.w := ?_
      · unfold oneG statG at h1
        split at h1
        · exact h1.elim
        · rename_i hst
          have hw : Region.wanted o (yielded ops a.tmps) = true := by
            split at hst
            · rename_i hg; simp [Region.wanted, hg]
            · rename_i j want hg
              split at hst
              · cases hst
              · rename_i d hd
                split at hst
                · rename_i b hb
                  have hu := hsr.tm.bool hb
                  have hy : yielded ops a.tmps j = some b := by
                    unfold dstOf at hd
                    split at hd
                    · cases hd
                    · rename_i o' ho'
                      rw [Array.getElem?_toList] at ho'
                      simp [yielded, ho', hd, hu]
                  have : b = want := by simpa using hst
                  simp [Region.wanted, hg, hy, this]
                · cases hst
                · cases hst
          rw [if_pos hw]
          exact .inl (oper_wp hT (detC_ok P _) hG (K := fun tm H => exploreG P T c0.H.length ops.toList n (R.erase i) tm H (Q .normal)) (fun c tm a hf hsr h => next c tm a hf hsr h) hf hsr h1)
        · rename_i hst
          have hw : Region.wanted o (yielded ops a.tmps) = false := by
            split at hst
            · cases hst
            · rename_i j want hg
              split at hst
              · cases hst
              · rename_i d hd
                split at hst
                · rename_i b hb
                  have hu := hsr.tm.bool hb
                  have hy : yielded ops a.tmps j = some b := by
                    unfold dstOf at hd
                    split at hd
                    · cases hd
                    · rename_i o' ho'
                      rw [Array.getElem?_toList] at ho'
                      simp [yielded, ho', hd, hu]
                  have : b ≠ want := by simpa using hst
                  simp [Region.wanted, hg, hy, this]
                · rename_i hb
                  have hu := hsr.tm.void hb
                  have hy : yielded ops a.tmps j = none := by
                    unfold dstOf at hd
                    split at hd
                    · cases hd
                    · rename_i o' ho'
                      rw [Array.getElem?_toList] at ho'
                      simp [yielded, ho', hd, hu]
                  simp [Region.wanted, hg, hy]
                · cases hst
          rw [if_neg (by rw [hw]; decide)]
          have h1 : putW tm o.dst (.tuple []) fun tm => exploreG P T c0.H.length ops.toList n (R.erase i) tm c.H (Q .normal) := putW_iff.2 h1
          obtain ⟨tm2, hk, hs'⟩ := hsr.put (d := o.dst) (v := .tuple []) (u := undef) (.tuple (us := #[]) rfl (by simp)) h1
          exact next _ _ _ hf hs' hk
      intro c tm a hf hsr h
      refine ih (R.erase i) _ tm c a (by simp [hs]) (fun j => ?_) (hn.erase i) (by rw [List.length_erase_of_mem hiR]; omega) (up_erase hn hri hu) hf hsr h
      rw [hn.mem_erase_iff, hR]
      rw [Array.getD_eq_getD_getElem?, Array.getD_eq_getD_getElem?, Array.getElem?_setIfInBounds]
      by_cases hj : i = j
      · subst hj
        have hlt := ((hR i).1 hiR).1
        simp [hs, hlt]
      · simp [hj]
        omega
end
end Go.E
namespace Go.E
section
variable {P : Program} {T : TEnv} {n0 : Nat} {all : List Oper}
def LastOp (all : List Oper) (m : Nat) : Prop := m ∉ predsAt all m ∧ ∀ i, i < all.length → i ≠ m → Before all i m
def exploreL (P : Program) (T : TEnv) (n0 : Nat) (all : List Oper) : Nat → List Nat → List AVal → Heap → (List AVal → Heap → Prop) → Prop
  | 0, R, tm, H, Q => ∃ m o, R = [m] ∧ LastOp all m ∧ all[m]? = some o ∧ o.guard = none ∧ oneW (callT P n0) T n0 o tm H Q
  | n + 1, R, tm, H, Q =>
    (∃ x o, x ∈ R ∧ ReadyR all R x ∧ all[x]? = some o ∧ (∀ z ∈ R, z ≠ x → Before all x z ∨ ∃ oz, all[z]? = some oz ∧ passesG all o oz = true) ∧ oneG P T n0 all o tm H fun tm H => exploreL P T n0 all n (R.erase x) tm H Q) ∨
    ((∃ z ∈ R, ReadyR all R z) ∧ ∀ z ∈ R, ReadyR all R z → ∃ o, all[z]? = some o ∧ oneG P T n0 all o tm H fun tm H => exploreL P T n0 all n (R.erase z) tm H Q)
theorem explore_frontL (Q : List AVal → Heap → Prop) : ∀ (n : Nat) (R : List Nat) (tm : List AVal) (H : Heap) (z : Nat), R.Nodup → UpR all R → z ∈ R → ReadyR all R z → exploreL P T n0 all (n + 1) R tm H Q →
    ∃ o, all[z]? = some o ∧ oneG P T n0 all o tm H fun tm H => exploreL P T n0 all n (R.erase z) tm H Q := by
  intro n
  induction n with
  | zero =>
    intro R tm H z hn hu hz hr h
    rcases h with ⟨x, o, hx, hrx, ho, hp, h⟩ | ⟨_, h⟩
    · by_cases hxz : z = x
      · subst hxz; exact ⟨o, ho, h⟩
      · exfalso
        rcases hp z hz hxz with hb | ⟨oz, hoz, hpass⟩
        · exact not_before hr hu hx hb
        · have hok : okO o.op = true := by
            simp only [passesG, passes, Bool.and_eq_true] at hpass
            exact hpass.1.1.1.1.1.1.1
          obtain ⟨_, _, m, _, h0, hl, _⟩ := oneG_out hok h
          have : z ∈ R.erase x := (hn.mem_erase_iff).2 ⟨hxz, hz⟩
          rw [h0, List.mem_singleton] at this
          subst this
          exact not_before hr hu hx (hl.2 x (List.getElem?_eq_some_iff.1 ho).1 (fun e => hxz e.symm))
    · exact h z hz hr
  | succ n ih =>
    intro R tm H z hn hu hz hr h
    rcases h with ⟨x, o, hx, hrx, ho, hp, h⟩ | ⟨_, h⟩
    · by_cases hxz : z = x
      · subst hxz; exact ⟨o, ho, h⟩
      · rcases hp z hz hxz with hb | ⟨oz, hoz, hpass⟩
        · exact (not_before hr hu hx hb).elim
        · have hok : okO o.op = true ∧ okO oz.op = true := by
            simp only [passesG, passes, Bool.and_eq_true] at hpass
            exact ⟨hpass.1.1.1.1.1.1.1, hpass.1.1.1.1.1.1.2⟩
          have h1 : oneG P T n0 all o tm H fun tm H => oneG P T n0 all oz tm H fun tm H => exploreL P T n0 all n ((R.erase x).erase z) tm H Q := by
            refine oneG_mono hok.1 h fun tm1 H1 h1 => ?_
            obtain ⟨oz', hoz', h2⟩ := ih (R.erase x) tm1 H1 z (hn.erase x) (up_erase hn hrx hu) ((hn.mem_erase_iff).2 ⟨hxz, hz⟩) (ready_erase hr) h1
            rw [hoz] at hoz'
            cases hoz'
            exact h2
          refine ⟨oz, hoz, oneG_mono hok.2 (swapG hpass h1) fun tm1 H1 h2 => ?_⟩
          refine .inl ⟨x, o, (hn.mem_erase_iff).2 ⟨fun e => hxz e.symm, hx⟩, ready_erase hrx, ho, fun y hy hyx => hp y (List.mem_of_mem_erase hy) hyx, ?_⟩
          rw [List.erase_comm]
          exact h2
    · exact h z hz hr
theorem any_okL (hT : TOK P T) {c0 : Cx} (hG : GOK c0) {ops : Array Oper} {Q : AQ} (hin : ∀ i, ∀ p ∈ predsAt ops.toList i, p < ops.size) :
    ∀ (n : Nat) (R : List Nat) (listed : Array Bool) (tm : List AVal) (c : Cx) (a : Act), listed.size = ops.size → (∀ i, i ∈ R ↔ i < ops.size ∧ listed.getD i true = false) → R.Nodup → R.length = n + 1 → UpR ops.toList R →
      Fr c0 c → SR c tm a → exploreL P T c0.H.length ops.toList n R tm c.H (Q .normal) → wpAny P .any ops (Post c0 Q) (n + 1) listed a c.w := by
  intro n
  have toR : ∀ {R : List Nat} {listed : Array Bool} {i : Nat}, (∀ i, i ∈ R ↔ i < ops.size ∧ listed.getD i true = false) → i ∈ Region.ready .any ops listed → i ∈ R ∧ ReadyR ops.toList R i := by
    intro R listed i hR hi
    simp only [Region.ready, List.mem_filter, List.mem_range, Bool.and_eq_true, Bool.not_eq_true'] at hi
    obtain ⟨hlt, hl, hall⟩ := hi
    refine ⟨(hR i).2 ⟨hlt, hl⟩, fun p hp hm => ?_⟩
    have ho : ops[i]? = some ops[i] := Array.getElem?_eq_getElem hlt
    rw [ho] at hall
    simp only [predsAt, Array.getElem?_toList, ho, predsO, List.mem_map, List.mem_filter] at hp
    obtain ⟨e, ⟨he, hb⟩, rfl⟩ := hp
    simp only [Option.map_some, Option.getD_some, Array.all_eq_true'] at hall
    have := hall e (by simpa using he)
    rw [hb] at this
    simp only [Bool.not_true, Bool.false_or] at this
    have h2 := ((hR _).1 hm).2
    rw [Array.getD_eq_getD_getElem?] at this h2
    cases hq : listed[e.on]? with
    | none => rw [hq] at this; simp at this
    | some b => rw [hq] at this h2; simp at this h2; rw [this] at h2; cases h2
  have ready_of : ∀ {R : List Nat} {listed : Array Bool} {z : Nat}, listed.size = ops.size → (∀ i, i ∈ R ↔ i < ops.size ∧ listed.getD i true = false) → z ∈ R → ReadyR ops.toList R z → z ∈ Region.ready .any ops listed := by
    intro R listed z hs hR hz hrz
    simp only [Region.ready, List.mem_filter, List.mem_range, Bool.and_eq_true, Bool.not_eq_true']
    obtain ⟨hlt, hlz⟩ := (hR z).1 hz
    refine ⟨hlt, hlz, ?_⟩
    have ho : ops[z]? = some ops[z] := Array.getElem?_eq_getElem hlt
    rw [ho]
    simp only [Option.map_some, Option.getD_some, Array.all_eq_true']
    intro e he
    cases hb : Region.binds .any e with
    | false => rfl
    | true =>
      have hp : e.on ∈ predsAt ops.toList z := by
        simp only [predsAt, Array.getElem?_toList, ho, predsO, List.mem_map, List.mem_filter]
        exact ⟨e, ⟨by simpa using he, hb⟩, rfl⟩
      have h1 := hrz _ hp
      have h2 := hin _ _ hp
      rw [hR] at h1
      have h3 : listed[e.on]? = some (listed[e.on]'(by omega)) := Array.getElem?_eq_getElem _
      rw [Array.getD_eq_getD_getElem?, h3] at h1 ⊢
      simp only [Option.getD_some, Bool.not_true, Bool.false_or] at h1 ⊢
      simp only [h2, true_and, Bool.not_eq_false] at h1
      exact h1
  induction n with
  | zero =>
    intro R listed tm c a hs hR hn hl hu hf hsr h
    obtain ⟨m, o, rfl, hlast, ho, hg0, h⟩ := h
    have hrm : ReadyR ops.toList [m] m := fun p hp hm => by
      rw [List.mem_singleton] at hm
      subst hm
      exact hlast.1 hp
    have hmr := ready_of hs hR (List.mem_singleton_self m) hrm
    refine ⟨fun h0 => ?_, fun i hi => ?_⟩
    · rw [h0] at hmr
      cases hmr
    · obtain ⟨hiR, hri⟩ := toR hR hi
      obtain rfl : i = m := List.mem_singleton.1 hiR
      have ho' : ops[i]? = some o := by rw [← Array.getElem?_toList]; exact ho
      simp only [wpOp, ho']
      rw [if_pos (show Region.wanted o (yielded ops a.tmps) = true by simp [Region.wanted, hg0])]
      refine .inl (oper_wp hT (fun _ _ _ _ _ h => h) hG (K := Q .normal) (fun c tm a hf hsr h => ?_) hf hsr h)
      refine ⟨?_, post_mk .normal h hf hsr⟩
      cases hr : Region.ready .any ops (listed.setIfInBounds i true) with
      | nil => rfl
      | cons j r =>
        exfalso
        have hj : j ∈ Region.ready .any ops (listed.setIfInBounds i true) := by rw [hr]; simp
        simp only [Region.ready, List.mem_filter, List.mem_range, Bool.and_eq_true, Bool.not_eq_true'] at hj
        obtain ⟨hlt, hlj, _⟩ := hj
        rw [Array.getD_eq_getD_getElem?, Array.getElem?_setIfInBounds] at hlj
        by_cases hji : i = j
        · subst hji
          simp [hs, hlt] at hlj
        · rw [if_neg hji, ← Array.getD_eq_getD_getElem?] at hlj
          have := (hR j).2 ⟨hlt, hlj⟩
          rw [List.mem_singleton] at this
          exact hji this.symm
  | succ n ih =>
    intro R listed tm c a hs hR hn hl hu hf hsr h
    have hex : ∃ z ∈ R, ReadyR ops.toList R z := by
      rcases h with ⟨x, o, hx, hrx, _⟩ | ⟨h, _⟩
      · exact ⟨x, hx, hrx⟩
      · exact h
    refine ⟨fun h0 => ?_, fun i hi => ?_⟩
    · exfalso
      obtain ⟨z, hz, hrz⟩ := hex
      have this := ready_of hs hR hz hrz
      rw [h0] at this
      cases this
    · obtain ⟨hiR, hri⟩ := toR hR hi
      obtain ⟨o, ho, h1⟩ := explore_frontL (Q .normal) n R tm c.H i hn hu hiR hri h
      have ho' : ops[i]? = some o := by rw [← Array.getElem?_toList]; exact ho
      simp only [wpOp, ho']
      have next : ∀ (c : Cx) (tm : List AVal) (a : Act), Fr c0 c → SR c tm a → exploreL P T c0.H.length ops.toList n (R.erase i) tm c.H (Q .normal) → wpAny P .any ops (Post c0 Q) (n + 1) (listed.setIfInBounds i true) a c.w := ?_
      · unfold oneG statG at h1
        split at h1
        · exact h1.elim
        · rename_i hst
          have hw : Region.wanted o (yielded ops a.tmps) = true := by
            split at hst
            · rename_i hg; simp [Region.wanted, hg]
            · rename_i j want hg
              split at hst
              · cases hst
              · rename_i d hd
                split at hst
                · rename_i b hb
                  have hu := hsr.tm.bool hb
                  have hy : yielded ops a.tmps j = some b := by
                    unfold dstOf at hd
                    split at hd
                    · cases hd
                    · rename_i o' ho'
                      rw [Array.getElem?_toList] at ho'
                      simp [yielded, ho', hd, hu]
                  have : b = want := by simpa using hst
                  simp [Region.wanted, hg, hy, this]
                · cases hst
                · cases hst
          rw [if_pos hw]
          exact .inl (oper_wp hT (detC_ok P _) hG (K := fun tm H => exploreL P T c0.H.length ops.toList n (R.erase i) tm H (Q .normal)) (fun c tm a hf hsr h => next c tm a hf hsr h) hf hsr h1)
        · rename_i hst
          have hw : Region.wanted o (yielded ops a.tmps) = false := by
            split at hst
            · cases hst
            · rename_i j want hg
              split at hst
              · cases hst
              · rename_i d hd
                split at hst
                · rename_i b hb
                  have hu := hsr.tm.bool hb
                  have hy : yielded ops a.tmps j = some b := by
                    unfold dstOf at hd
                    split at hd
                    · cases hd
                    · rename_i o' ho'
                      rw [Array.getElem?_toList] at ho'
                      simp [yielded, ho', hd, hu]
                  have : b ≠ want := by simpa using hst
                  simp [Region.wanted, hg, hy, this]
                · rename_i hb
                  have hu := hsr.tm.void hb
                  have hy : yielded ops a.tmps j = none := by
                    unfold dstOf at hd
                    split at hd
                    · cases hd
                    · rename_i o' ho'
                      rw [Array.getElem?_toList] at ho'
                      simp [yielded, ho', hd, hu]
                  simp [Region.wanted, hg, hy]
                · cases hst
          rw [if_neg (by rw [hw]; decide)]
          have h1 : putW tm o.dst (.tuple []) fun tm => exploreL P T c0.H.length ops.toList n (R.erase i) tm c.H (Q .normal) := putW_iff.2 h1
          obtain ⟨tm2, hk, hs'⟩ := hsr.put (d := o.dst) (v := .tuple []) (u := undef) (.tuple (us := #[]) rfl (by simp)) h1
          exact next _ _ _ hf hs' hk
      intro c tm a hf hsr h
      refine ih (R.erase i) _ tm c a (by simp [hs]) (fun j => ?_) (hn.erase i) (by rw [List.length_erase_of_mem hiR]; omega) (up_erase hn hri hu) hf hsr h
      rw [hn.mem_erase_iff, hR]
      rw [Array.getD_eq_getD_getElem?, Array.getD_eq_getD_getElem?, Array.getElem?_setIfInBounds]
      by_cases hj : i = j
      · subst hj
        have hlt := ((hR i).1 hiR).1
        simp [hs, hlt]
      · simp [hj]
        omega
end
end Go.E
namespace Go.E
def befMask (tbl : List Nat) (ps : List Nat) : Nat := ps.foldl (fun s j => s ||| 2 ^ j ||| tbl.getD j 0) 0
def befTbl : List Oper → List Nat → List Nat
  | [], acc => acc
  | o :: r, acc => befTbl r (acc ++ [befMask acc (predsO o)])
def TblOK (all : List Oper) (tbl : List Nat) : Prop := ∀ z x, (tbl.getD z 0).testBit x = true → Before all x z
theorem mask_ok {all : List Oper} {tbl : List Nat} {z : Nat} (ht : TblOK all tbl) : ∀ (ps : List Nat) (s : Nat), (∀ p ∈ ps, p ∈ predsAt all z) → (∀ x, s.testBit x = true → Before all x z) →
    ∀ x, (ps.foldl (fun s j => s ||| 2 ^ j ||| tbl.getD j 0) s).testBit x = true → Before all x z := by
  intro ps
  induction ps with
  | nil => exact fun s _ hs x h => hs x h
  | cons p ps ih =>
    intro s hp hs x h
    refine ih _ (fun q hq => hp q (List.mem_cons_of_mem _ hq)) (fun y hy => ?_) x h
    have hpz := hp p List.mem_cons_self
    simp only [Nat.testBit_or, Bool.or_eq_true, Nat.testBit_two_pow, decide_eq_true_eq] at hy
    rcases hy with (hy | rfl) | hy
    · exact hs y hy
    · exact .one hpz
    · exact .more (ht p y hy) hpz
theorem tbl_ok {all : List Oper} : ∀ (rest done : List Oper) (tbl : List Nat), all = done ++ rest → tbl.length = done.length → TblOK all tbl → TblOK all (befTbl rest tbl) := by
  intro rest
  induction rest with
  | nil => exact fun _ _ _ _ h => h
  | cons o r ih =>
    intro done tbl he hl ht
    refine ih (done ++ [o]) _ (by rw [he]; simp) (by simp [hl]) fun z x hx => ?_
    rw [List.getD_eq_getElem?_getD, List.getElem?_append] at hx
    split at hx
    · exact ht z x (by rw [List.getD_eq_getElem?_getD]; exact hx)
    · rename_i hge
      by_cases hz : z = tbl.length
      · subst hz
        simp only [Nat.sub_self, List.getElem?_cons_zero, Option.getD_some] at hx
        refine mask_ok ht (predsO o) 0 (fun p hp => ?_) (by simp) x hx
        have : all[tbl.length]? = some o := by rw [he, hl]; simp
        simp only [predsAt, this]
        exact hp
      · rw [List.getElem?_eq_none (by simp; omega)] at hx
        simp at hx
def readyB (all : List Oper) (R : List Nat) (i : Nat) : Bool := (predsAt all i).all fun p => !R.contains p
def appO : Op → Bool
  | .call ⟨.builtin .append, _, _⟩ => true
  | _ => false
theorem src_mono {es : Nat} {H : Heap} {x : AVal} {K K' : Nat → (Nat → List AVal) → Prop} (hk : ∀ m row, K m row → K' m row) (h : srcW es H x K) : srcW es H x K' := by
  obtain ⟨R, hR⟩ := ang_srcW (β := Nat × (Nat → List AVal)) (es := es) (H := H) (x := x) (G := fun m row k => k (m, row)) (fun m row => ang_ret _)
  obtain ⟨r, hr, h⟩ := (hR fun r => K r.1 r.2).1 h
  exact (hR fun r => K' r.1 r.2).2 ⟨r, hr, hk _ _ h⟩
theorem append_mono {te : TI} {n0 : Nat} {s x : AVal} {tm : List AVal} {H : Heap} {k k' : List AVal → AVal → Heap → Prop} (hk : ∀ tm v H, k tm v H → k' tm v H) (h : appendW te n0 s x tm H k) : appendW te n0 s x tm H k' := by
  unfold appendW at h ⊢
  refine src_mono (fun m row h => ?_) h
  split at h
  · obtain ⟨h1, h⟩ := need_iff.1 h
    refine need_iff.2 ⟨h1, ?_⟩
    split at h
    · obtain ⟨h2, h⟩ := whenB_iff.1 h
      obtain ⟨h3, h⟩ := need_iff.1 h
      refine whenB_iff.2 ⟨h2, need_iff.2 ⟨h3, ?_⟩⟩
      rcases choice_iff.1 h with h | h
      · exact choice_iff.2 (.inl (hk _ _ _ h))
      · rw [newW_iff] at h
        exact choice_iff.2 (.inr (newW_iff.2 (hk _ _ _ h)))
    · rcases choice_iff.1 h with h | h
      · exact choice_iff.2 (.inl (hk _ _ _ h))
      · rw [newW_iff] at h
        exact choice_iff.2 (.inr (newW_iff.2 (hk _ _ _ h)))
  · obtain ⟨h1, h⟩ := whenB_iff.1 h
    obtain ⟨h2, h⟩ := need_iff.1 h
    refine whenB_iff.2 ⟨h1, need_iff.2 ⟨h2, ?_⟩⟩
    split at h
    · split at h
      · obtain ⟨h3, h⟩ := whenB_iff.1 h
        obtain ⟨h4, h⟩ := whenB_iff.1 h
        obtain ⟨h5, h⟩ := need_iff.1 h
        refine whenB_iff.2 ⟨h3, whenB_iff.2 ⟨h4, need_iff.2 ⟨h5, ?_⟩⟩⟩
        rw [scrubW_iff, scrubH_iff, setL_iff] at h ⊢
        exact hk _ _ _ h
      · exact h.elim
    · obtain ⟨h3, h⟩ := whenB_iff.1 h
      obtain ⟨h4, h⟩ := need_iff.1 h
      refine whenB_iff.2 ⟨h3, need_iff.2 ⟨h4, ?_⟩⟩
      rw [scrubW_iff, scrubH_iff, setL_iff] at h ⊢
      exact hk _ _ _ h
    · exact h.elim
  · exact h.elim
theorem one_mono' {P : Program} {T : TEnv} {n0 : Nat} {o : Oper} (hc : (okO o.op || appO o.op) = true) {tm : List AVal} {H : Heap} {K K' : List AVal → Heap → Prop} (h : oneW (detC P) T n0 o tm H K) (hk : ∀ tm H, K tm H → K' tm H) : oneW (detC P) T n0 o tm H K' := by
  by_cases h0 : okO o.op = true
  · exact one_mono h0 h hk
  · have h1 : appO o.op = true := by simpa [h0] using hc
    unfold oneW at h ⊢
    generalize o.op = op at h h1 ⊢
    unfold appO at h1
    split at h1
    · simp only [opW, force_iff] at h ⊢
      split at h
      · split at h
        · split at h
          · split at h
            · obtain ⟨a1, h⟩ := whenB_iff.1 h
              obtain ⟨a2, h⟩ := whenB_iff.1 h
              obtain ⟨a3, h⟩ := whenB_iff.1 h
              rw [lenL_iff] at h
              obtain ⟨a4, h⟩ := whenB_iff.1 h
              refine whenB_iff.2 ⟨a1, whenB_iff.2 ⟨a2, whenB_iff.2 ⟨a3, lenL_iff.2 (whenB_iff.2 ⟨a4, append_mono (fun tm v H h => ?_) h⟩)⟩⟩⟩
              rw [putW_iff] at h ⊢
              exact hk _ _ h
            · exact h.elim
          · exact h.elim
        · exact h.elim
      · exact h.elim
    · cases h1
def pickB (all : List Oper) (tbl : List Nat) (R : List Nat) (x : Nat) : Bool :=
  R.contains x && readyB all R x && (match all[x]? with
    | some o => (okO o.op || appO o.op) && R.all fun z => Nat.beq z x || (tbl.getD z 0).testBit x || (match all[z]? with | some oz => passes o oz | none => false)
    | none => false)
def planB (all : List Oper) (tbl : List Nat) : List Nat → List Nat → Bool
  | [], R => R.isEmpty
  | x :: p, R => pickB all tbl R x && planB all tbl p (R.erase x)
def drawOK (all : List Oper) (plan : List Nat) : Bool :=
  (all.all fun o => o.guard.isNone) && ((List.range all.length).all fun i => (predsAt all i).all fun p => Nat.blt p all.length) && planB all (befTbl all []) plan (List.range all.length)
def runW (C : CallH) (T : TEnv) (n0 : Nat) (all : List Oper) : List Nat → List AVal → Heap → (List AVal → Heap → Prop) → Prop
  | [], tm, H, Q => Q tm H
  | x :: p, tm, H, Q => match all[x]? with
    | some o => opW C T n0 o.op tm H fun tm v H => putW tm o.dst v fun tm => runW C T n0 all p tm H Q
    | none => False
section
variable {P : Program} {T : TEnv} {n0 : Nat} {all : List Oper}
theorem plan_ok {tbl : List Nat} (ht : TblOK all tbl) {Q : List AVal → Heap → Prop} : ∀ (plan R : List Nat) (tm : List AVal) (H : Heap), planB all tbl plan R = true → runW (detC P) T n0 all plan tm H Q → exploreW P T n0 all plan.length R tm H Q := by
  intro plan
  induction plan with
  | nil =>
    intro R tm H hp h
    exact ⟨by simpa [planB] using hp, h⟩
  | cons x p ih =>
    intro R tm H hp h
    simp only [planB, Bool.and_eq_true] at hp
    obtain ⟨hpick, hp⟩ := hp
    simp only [pickB, Bool.and_eq_true] at hpick
    obtain ⟨⟨hx, hr⟩, hpick⟩ := hpick
    simp only [runW] at h
    split at h
    · rename_i o ho
      rw [ho] at hpick
      simp only [Bool.and_eq_true] at hpick
      obtain ⟨hok, hpick⟩ := hpick
      refine .inl ⟨x, o, by simpa using hx, fun q hq => ?_, ho, fun z hz hzx => ?_, ?_⟩
      · have := List.all_eq_true.1 hr q hq
        simpa using this
      · have := List.all_eq_true.1 hpick z hz
        simp only [Bool.or_eq_true] at this
        rcases this with (h1 | h1) | h1
        · exact absurd (Nat.eq_of_beq_eq_true h1) hzx
        · exact .inl (ht z x h1)
        · split at h1
          · rename_i oz hoz
            exact .inr ⟨oz, hoz, h1⟩
          · cases h1
      · exact one_mono' hok h fun tm H h => ih (R.erase x) tm H hp h
    · exact h.elim
@[irreducible] def drawN (P : Program) (T : TEnv) (n0 : Nat) (ops : List Oper) (tm : List AVal) (H : Heap) (Q : List AVal → Heap → Prop) : Prop :=
  ∃ tm' H', WeakS n0 tm H tm' H' ∧ (∀ i, ∀ p ∈ predsAt ops i, p < ops.length) ∧ (((∀ o ∈ ops, o.guard = none) ∧ exploreW P T n0 ops ops.length (List.range ops.length) tm' H' Q) ∨ exploreG P T n0 ops ops.length (List.range ops.length) tm' H' Q ∨ ∃ n, ops.length = n + 1 ∧ exploreL P T n0 ops n (List.range ops.length) tm' H' Q)
theorem draw_weak {n0 : Nat} {ops : List Oper} {tm tm' : List AVal} {H H' : Heap} {Q : List AVal → Heap → Prop} (hw : WeakS n0 tm H tm' H') (h : drawN P T n0 ops tm' H' Q) : drawN P T n0 ops tm H Q := by
  unfold drawN at h ⊢
  obtain ⟨t, G, h1, h2⟩ := h
  exact ⟨t, G, hw.trans h1, h2⟩
theorem plan_len {tbl : List Nat} : ∀ {plan R : List Nat}, planB all tbl plan R = true → plan.length = R.length := by
  intro plan
  induction plan with
  | nil => intro R h; simp [planB] at h; simp [h]
  | cons x p ih =>
    intro R h
    simp only [planB, Bool.and_eq_true] at h
    have := ih h.2
    simp only [pickB, Bool.and_eq_true] at h
    have hx : x ∈ R := by simpa using h.1.1.1
    rw [List.length_erase_of_mem hx] at this
    have := List.length_pos_of_mem hx
    simp only [List.length_cons]
    omega
theorem draw_intro (plan : List Nat) {tm : List AVal} {H : Heap} {Q : List AVal → Heap → Prop} (hp : drawOK all plan = true) (h : runW (detC P) T n0 all plan tm H Q) : drawN P T n0 all tm H Q := by
  unfold drawN
  simp only [drawOK, Bool.and_eq_true] at hp
  obtain ⟨⟨h1, h2⟩, h3⟩ := hp
  refine ⟨tm, H, WeakS.refl _ _ _, fun i p hpi => ?_, .inl ⟨fun o ho => ?_, ?_⟩⟩
  rotate_left
  · have := List.all_eq_true.1 h1 o ho
    simpa using this
  rotate_left
  · by_cases hi : i < all.length
    · have := List.all_eq_true.1 (List.all_eq_true.1 h2 i (List.mem_range.2 hi)) p hpi
      have : p + 1 ≤ all.length := Nat.le_of_ble_eq_true this
      omega
    · simp only [predsAt, List.getElem?_eq_none (Nat.le_of_not_lt hi)] at hpi
      cases hpi
  · have hl := plan_len h3
    rw [List.length_range] at hl
    rw [← hl, hl]
    have := plan_ok (P := P) (T := T) (n0 := n0) (tbl_ok all [] [] rfl rfl (fun z x h => by simp at h)) plan (List.range all.length) tm H h3 h
    rw [hl] at this
    exact this
theorem draw_ok (hT : TOK P T) (hm : P.follows .mixedOrders = true) {c0 : Cx} (hG : GOK c0) (id : Nat) (ops : Array Oper) (Q : AQ) (tm : List AVal) (c : Cx) (a : Act) (hf : Fr c0 c) (hs : SR c tm a)
    (h : drawN P T c0.H.length ops.toList tm c.H (Q .normal)) : (Code.region id ops true).wp P (Post c0 Q) a c.w := by
  unfold drawN at h
  obtain ⟨tm', H', hw, h2, h⟩ := h
  obtain ⟨c', ew, rfl, hf, hs⟩ := hw c0 c a rfl hf hs rfl
  rw [← ew]
  clear hw ew
  revert c'
  intro c h hf hs
  refine wp_region_any hm ?_
  have mem : ∀ i, i ∈ List.range ops.size ↔ i < ops.size ∧ (Array.replicate ops.size false).getD i true = false := fun i => by
    simp only [List.mem_range]
    refine ⟨fun h => ⟨h, by simp [h]⟩, fun h => h.1⟩
  have up : UpR ops.toList (List.range ops.size) := fun y _ z hb => by
    have : ∃ p, p ∈ predsAt ops.toList z := by
      cases hb with
      | one h => exact ⟨_, h⟩
      | more _ h => exact ⟨_, h⟩
    obtain ⟨p, hp⟩ := this
    rw [List.mem_range]
    apply Classical.byContradiction
    intro hge
    simp only [predsAt, Array.getElem?_toList, Array.getElem?_eq_none (Nat.le_of_not_lt hge)] at hp
    cases hp
  rcases h with ⟨h1, h3⟩ | h3 | ⟨n, hn, h3⟩
  · have := any_ok hT hG (ops := ops) (Q := Q) h1 (by simpa using h2) ops.size (List.range ops.size) (Array.replicate ops.size false) tm' c.drw a (by simp) mem List.nodup_range (by simp) up (hf.trans c.drw_fr) ⟨hs.tm.mono c.drw_fr hs.heap.img, Cx.drw_heap hs.heap, hs.defers⟩ (by simp only [Array.length_toList] at h3; exact h3)
    exact this
  · have := any_okG hT hG (ops := ops) (Q := Q) (by simpa using h2) ops.size (List.range ops.size) (Array.replicate ops.size false) tm' c.drw a (by simp) mem List.nodup_range (by simp) up (hf.trans c.drw_fr) ⟨hs.tm.mono c.drw_fr hs.heap.img, Cx.drw_heap hs.heap, hs.defers⟩ (by simp only [Array.length_toList] at h3; exact h3)
    exact this
  · have hn' : ops.size = n + 1 := by simpa using hn
    have := any_okL hT hG (ops := ops) (Q := Q) (by simpa using h2) n (List.range ops.size) (Array.replicate ops.size false) tm' c.drw a (by simp) mem List.nodup_range (by simp [hn']) up (hf.trans c.drw_fr) ⟨hs.tm.mono c.drw_fr hs.heap.img, Cx.drw_heap hs.heap, hs.defers⟩ (by simp only [Array.length_toList] at h3; exact h3)
    rw [← hn'] at this
    exact this
structure Env (P : Program) (T : TEnv) : Prop where
  tok : TOK P T
  mixed : P.follows .mixedOrders = true
def symP (P : Program) (T : TEnv) (n0 : Nat) : Par := ⟨T, n0, callT P n0, loopN n0, drawN P T n0⟩
theorem symP_ok (hE : Env P T) (c0 : Cx) (hG : GOK c0) : ParOK P c0 (symP P T c0.H.length) where
  T := hE.tok
  n0 := rfl
  C := fun _ _ _ _ _ h => h
  G := hG
  L := fun cd body hb Q tm c a hf hs h => loopN_ok cd body hb Q tm c a hf hs h
  D := fun id ops Q tm c a hf hs h => draw_ok hE.tok hE.mixed hG id ops Q tm c a hf hs h
theorem callN_def (hE : Env P T) {f : FuncId} {fn : Func} {args : List AVal} {H : Heap} {k : AVal → Heap → Prop} (n0 : Nat) (hn0 : H.length = n0)
    (hfn : P.funcs[f]? = some fn) (hn : (fn.name == "runtime.NumGoroutine") = false) (h : funW (symP P T n0) fn args H k) : callN P f args H k := by
  subst hn0
  refine fun_callN (p := symP P T H.length) (fun c0 h0 hG => ?_) hfn hn h
  rw [← h0]
  exact symP_ok hE c0 hG
end
end Go.E
