/- What the code of a small language of cells, rows and pointers means, and that a run of the program's own code, as it is given, follows that meaning, step by step; each theorem bears its own conditions. -/
import Derived.Calls
import Derived.Orders
import Derived.Below
import Derived.Laws.StructEq
import Derived.Laws.Cells
import Derived.Laws.AppendOwn
import Derived.Laws.MakeOwn
import Derived.Great.BuildSlice
import Derived.Laws.CopyRow
section
set_option linter.unusedVariables false
set_option linter.unusedSimpArgs false
namespace Go.Proofs.Ytgodaiiegcdpcaa.Abs

abbrev Id := Nat × Nat × Nat × Nat

inductive C where
  | int (k : IntKind) (n : Int)
  | bool (b : Bool)
  | str (s : ByteArray)
  | nils
  | imm (fl : Bool) (sz n : Nat) (xs : List C)
  | inl (sz n : Nat) (xs : List C)
  | ref (e : Id) (p : List Nat) (sz lo n : Nat)
  | ptr (e : Id) (p : List Nat) (off : Nat)
  | iptr (fl : Bool) (xs : List C) (off : Nat)
  | nilp
  | dead
  deriving Inhabited

inductive V where
  | c (x : C)
  | agg (xs : List C)
  | bx (xs : List C)
  | tup (vs : List V)
  deriving Inhabited

inductive Opd where
  | t (n : Nat)
  | k (v : C)
  deriving Inhabited

def upd {α β : Type} [DecidableEq α] (f : α → β) (d : α) (v : β) : α → β := fun t => if t = d then v else f t

@[simp] theorem upd_same {α β : Type} [DecidableEq α] (f : α → β) (d : α) (v : β) : upd f d v d = v := by simp [upd]
theorem upd_ne {α β : Type} [DecidableEq α] (f : α → β) {d t : α} (v : β) (h : t ≠ d) : upd f d v t = f t := by simp [upd, h]

abbrev Heap := Id → Option (List C)

structure St where
  T : Nat → V
  H : Heap
  n : Nat

def ev (T : Nat → V) : Opd → V
  | .t n => T n
  | .k v => .c v

/-! ### nodes -/

def walk : List Nat → List C → Option (List C)
  | [], xs => some xs
  | j :: q, xs => match xs[j]? with
    | some (.inl _ _ ys) => walk q ys
    | _ => none

def turn (f : List C → Option (List C)) : List Nat → List C → Option (List C)
  | [], xs => f xs
  | j :: q, xs => match xs[j]? with
    | some (.inl sz n ys) => match turn f q ys with
      | some ys' => some (xs.set j (.inl sz n ys'))
      | none => none
    | _ => none

def getN (H : Heap) (e : Id) (p : List Nat) : Option (List C) :=
  match H e with
  | some xs => walk p xs
  | none => none

def turnN (H : Heap) (e : Id) (p : List Nat) (f : List C → Option (List C)) : Option Heap :=
  match H e with
  | some xs => match turn f p xs with
    | some ys => some (upd H e (some ys))
    | none => none
  | none => none

/-- Cells written at an offset. -/
def wr (off : Nat) (vs xs : List C) : Option (List C) :=
  if off + vs.length ≤ xs.length then some (xs.take off ++ vs ++ xs.drop (off + vs.length)) else none

/-- So many cells from an offset on. -/
def cut (off s : Nat) (xs : List C) : Option (List C) :=
  if off + s ≤ xs.length then some ((xs.drop off).take s) else none

/-- What is read of a cell: an owned slice is read as an alias of its place. -/
def look (e : Id) (p : List Nat) (j : Nat) : C → C
  | .inl sz n _ => .ref e (p ++ [j]) sz 0 n
  | c => c

def looks (e : Id) (p : List Nat) : Nat → List C → List C
  | _, [] => []
  | j, x :: xs => look e p j x :: looks e p (j + 1) xs

def mkV (ag : Bool) (xs : List C) : Option V :=
  if ag then some (.agg xs) else match xs with
    | [x] => some (.c x)
    | _ => none

def loadV (H : Heap) (x : V) (s : Nat) (ag : Bool) : Option V :=
  match x with
  | .c (.ptr e p off) => match getN H e p with
    | some xs => match cut off s xs with
      | some ys => mkV ag (looks e p off ys)
      | none => none
    | none => none
  | .c (.iptr _ xs off) => match cut off s xs with
    | some ys => mkV ag ys
    | none => none
  | _ => none

/-- The cells of a value. -/
def cellsV : V → Option (List C)
  | .c x => some [x]
  | .agg xs => some xs
  | _ => none

/-- Cells that may lie in memory. -/
def lies : C → Bool
  | .int .. | .bool _ | .str _ | .nils | .imm .. | .ref .. | .ptr .. | .nilp => true
  | _ => false

def storeV (H : Heap) (x v : V) (s : Nat) : Option Heap :=
  match x, cellsV v with
  | .c (.ptr e p off), some vs => if vs.length = s ∧ vs.all lies = true then turnN H e p (wr off vs) else none
  | _, _ => none

/-! ### plain computing -/

def intBin (op : BinOp) (k : IntKind) (a b : Int) : Option C :=
  match op with
  | .add => some (.int k (k.wrap (a + b)))
  | .sub => some (.int k (k.wrap (a - b)))
  | .mul => some (.int k (k.wrap (a * b)))
  | .quo => if b = 0 then none else some (.int k (k.wrap (a.tdiv b)))
  | .rem => if b = 0 then none else some (.int k (a.tmod b))
  | .and => some (.int k (k.wrap ((BitVec.ofInt k.bits a &&& BitVec.ofInt k.bits b).toNat : Int)))
  | .or => some (.int k (k.wrap ((BitVec.ofInt k.bits a ||| BitVec.ofInt k.bits b).toNat : Int)))
  | .xor => some (.int k (k.wrap ((BitVec.ofInt k.bits a ^^^ BitVec.ofInt k.bits b).toNat : Int)))
  | .eql => some (.bool (a == b))
  | .neq => some (.bool (a != b))
  | .lss => some (.bool (decide (a < b)))
  | .leq => some (.bool (decide (a ≤ b)))
  | .gtr => some (.bool (decide (a > b)))
  | .geq => some (.bool (decide (a ≥ b)))
  | _ => none

def shiftI (op : BinOp) (k : IntKind) (a b : Int) : Option C :=
  if b < 0 then none else
  match op with
  | .shl => some (.int k (k.wrap (a * 2 ^ (min b.toNat k.bits))))
  | .shr => some (.int k (a.fdiv (2 ^ (min b.toNat k.bits))))
  | _ => none

def strBin (op : BinOp) (x y : ByteArray) : Option C :=
  match op with
  | .add => if x.size + y.size ≤ 2 ^ 62 then some (.str (x ++ y)) else none
  | .eql => some (.bool (x.toList == y.toList))
  | .neq => some (.bool (!(x.toList == y.toList)))
  | _ => none

def binC (op : BinOp) (x y : C) : Option C :=
  match op, x, y with
  | .shl, .int k a, .int _ b => shiftI .shl k a b
  | .shr, .int k a, .int _ b => shiftI .shr k a b
  | op, .int k a, .int k' b => if k = k' then intBin op k a b else none
  | op, .str a, .str b => strBin op a b
  | _, _, _ => none

def unC (op : UnOp) (x : C) : Option C :=
  match op, x with
  | .neg, .int k n => some (.int k (k.wrap (0 - n)))
  | .not, .bool b => some (.bool (!b))
  | _, _ => none

/-- Are the cells of two structs of whole numbers and bools alike? -/
def eqC : Bool → C → C → Option Bool
  | true, .int k a, .int k' b => if k = k' then some (a == b) else none
  | false, .bool a, .bool b => some (a == b)
  | _, _, _ => none

def eqsC : List Bool → List C → List C → Option Bool
  | [], [], [] => some true
  | k :: ks, x :: xs, y :: ys => match eqC k x y with
    | some true => eqsC ks xs ys
    | some false => some false
    | none => none
  | _, _, _ => none

def boundC (lo hi : Int) (x : V) : Option Nat :=
  match x with
  | .c (.int _ i) => if lo ≤ i ∧ i ≤ hi then some i.toNat else none
  | _ => none

def boundO (d : Nat) (hi : Int) : Option V → Option Nat
  | none => some d
  | some x => boundC 0 hi x

/-! ### operations -/

inductive Mode where
  | im | mv | io (s : Nat) | sub
  deriving Inhabited

inductive AOp where
  | mov (x : Opd)
  | pick (c a b : Opd)
  | bin (op : BinOp) (x y : Opd)
  | eqb (ne : Bool) (x y : Opd)
  | eqs (ne : Bool) (ks : List Bool) (x y : Opd)
  | un (op : UnOp) (x : Opd)
  | fa (x : Opd) (off : Nat)
  | fld (x : Opd) (off s : Nat) (ag : Bool)
  | ix (x i : Opd) (sz : Nat)
  | ixs (x i : Opd)
  | len (x : Opd)
  | lens (x : Opd)
  | slc (x : Opd) (lo hi : Option Opd) (sz : Nat)
  | slcs (x : Opd) (lo hi : Option Opd)
  | ext (x : Opd) (i : Nat)
  | nilck (x : Opd)
  | conv (k : IntKind) (x : Opd)
  | mx (x y : Opd)
  | mn (x y : Opd)
  | build (zero : List C) (parts : List (Nat × Nat × Opd))
  | load (x : Opd) (s : Nat) (ag : Bool)
  | b2s (x : Opd)
  | box (x : Opd)
  | alloc (zero : List C)
  | bslice (sz n : Nat) (zero : List C) (parts : List (Nat × Nat × Opd))
  | mks (sz bytes : Nat) (zero : List C) (len cap : Opd)
  | store (x v : Opd) (s : Nat)
  | app (sz bytes : Nat) (x y : Opd)
  | call (f : FuncId) (args : List (Mode × Opd))
  deriving Inhabited

structure AOper where
  ix : Nat
  d : Option Nat
  g : Option (Nat × Bool)
  o : AOp
  deriving Inhabited

/-- Parts laid over cells. -/
def fillC (T : Nat → V) (cells : List C) : List (Nat × Nat × Opd) → Option (List C)
  | [] => some cells
  | (off, s, x) :: rest => match cellsV (ev T x) with
    | some vs => if vs.length = s ∧ vs.all lies = true then match wr off vs cells with
        | some cs => fillC T cs rest
        | none => none
      else none
    | none => none

def rep (n : Nat) (zero : List C) : List C := (List.replicate n zero).flatten

/-- What is computed from temporaries alone. -/
def quiet (T : Nat → V) : AOp → Option V
  | .mov x => some (ev T x)
  | .pick c a b => match ev T c with
    | .c (.bool t) => some (if t then ev T a else ev T b)
    | _ => none
  | .bin op x y => match ev T x, ev T y with
    | .c a, .c b => (binC op a b).map .c
    | _, _ => none
  | .eqb ne x y => match ev T x, ev T y with
    | .c (.bool a), .c (.bool b) => some (.c (.bool ((a == b) != ne)))
    | _, _ => none
  | .eqs ne ks x y => match ev T x, ev T y with
    | .agg a, .agg b => (eqsC ks a b).map fun r => .c (.bool (r != ne))
    | _, _ => none
  | .un op x => match ev T x with
    | .c a => (unC op a).map .c
    | _ => none
  | .fa x off => match ev T x with
    | .c (.ptr e p o) => some (.c (.ptr e p (o + off)))
    | .c (.iptr fl xs o) => some (.c (.iptr fl xs (o + off)))
    | _ => none
  | .fld x off s ag => match ev T x with
    | .agg xs => match cut off s xs with
      | some ys => mkV ag ys
      | none => none
    | _ => none
  | .ix x i sz => match ev T x, ev T i with
    | .c (.ref e p sz' lo n), .c (.int _ i) => if sz' = sz ∧ 0 ≤ i ∧ i < n then some (.c (.ptr e p (lo + i.toNat * sz))) else none
    | .c (.imm fl sz' n xs), .c (.int _ i) => if sz' = sz ∧ 0 ≤ i ∧ i < n then some (.c (.iptr fl xs (i.toNat * sz))) else none
    | _, _ => none
  | .ixs x i => match ev T x, ev T i with
    | .c (.str s), .c (.int _ i) => if h : 0 ≤ i ∧ i.toNat < s.size then some (.c (.int .u8 ((s[i.toNat]'h.2).toNat : Int))) else none
    | _, _ => none
  | .len x => match ev T x with
    | .c (.ref _ _ _ _ n) => some (.c (.int .i64 n))
    | .c (.imm _ _ n _) => some (.c (.int .i64 n))
    | .c .nils => some (.c (.int .i64 0))
    | _ => none
  | .lens x => match ev T x with
    | .c (.str s) => some (.c (.int .i64 s.size))
    | _ => none
  | .slc x lo hi sz => match ev T x with
    | .c (.ref e p sz' o n) => match boundO n n (hi.map (ev T)) with
      | some h => match boundO 0 h (lo.map (ev T)) with
        | some l => if sz' = sz then some (.c (.ref e p sz (o + l * sz) (h - l))) else none
        | none => none
      | none => none
    | .c (.imm fl sz' n xs) => match boundO n n (hi.map (ev T)) with
      | some h => match boundO 0 h (lo.map (ev T)) with
        | some l => if sz' = sz then some (.c (.imm fl sz (h - l) ((xs.drop (l * sz)).take ((h - l) * sz)))) else none
        | none => none
      | none => none
    | .c .nils => match boundO 0 0 (hi.map (ev T)) with
      | some h => match boundO 0 h (lo.map (ev T)) with
        | some _ => some (.c .nils)
        | none => none
      | none => none
    | _ => none
  | .slcs x lo hi => match ev T x with
    | .c (.str s) => match boundO s.size s.size (hi.map (ev T)) with
      | some h => match boundO 0 h (lo.map (ev T)) with
        | some l => some (.c (.str (s.extract l h)))
        | none => none
      | none => none
    | _ => none
  | .ext x i => match ev T x with
    | .tup vs => vs[i]?
    | _ => none
  | .nilck x => match ev T x with
    | .c (.ptr e p o) => some (.c (.ptr e p o))
    | .c (.iptr fl xs o) => some (.c (.iptr fl xs o))
    | _ => none
  | .conv k x => match ev T x with
    | .c (.int _ n) => some (.c (.int k (k.wrap n)))
    | _ => none
  | .mx x y => match ev T x, ev T y with
    | .c (.int k a), .c (.int k' b) => if k = k' then some (.c (.int k (if b > a then b else a))) else none
    | _, _ => none
  | .mn x y => match ev T x, ev T y with
    | .c (.int k a), .c (.int k' b) => if k = k' then some (.c (.int k (if b < a then b else a))) else none
    | _, _ => none
  | .build zero parts => (fillC T zero parts).map .agg
  | _ => none

/-! ### handing over -/

def live : C → Bool
  | .dead => false
  | _ => true

/-- A cell as it is handed to who may only read it. -/
def snap (H : Heap) : Nat → C → Option C
  | 0, _ => none
  | k + 1, c => match c with
    | .int a b => some (.int a b)
    | .bool b => some (.bool b)
    | .str s => some (.str s)
    | .nils => some .nils
    | .nilp => some .nilp
    | .imm fl sz n xs => some (.imm fl sz n xs)
    | .inl sz n xs => (xs.mapM (snap H k)).map (.imm true sz n)
    | .ref e p sz lo n => match getN H e p with
      | some xs => if xs.all live = true then match cut lo (n * sz) xs with
        | some ys => (ys.mapM (snap H k)).map (.imm true sz n)
        | none => none
        else none
      | none => none
    | _ => none

def kill (H : Heap) (e : Id) (p : List Nat) : Option Heap :=
  match p with
  | [] => some (upd H e none)
  | j :: q => turnN H e ((j :: q).dropLast) (fun xs => if (j :: q).getLast (by simp) < xs.length then some (xs.set ((j :: q).getLast (by simp)) .dead) else none)

mutual
/-- Cells that are read only, all the way down; what stays for good (fl = false) holds nothing that is but lent. -/
def pur (fl : Bool) : C → Bool
  | .int .. | .bool _ | .str _ | .nils | .nilp => true
  | .imm f _ _ xs => (!f || fl) && purL f xs
  | _ => false
def purL (fl : Bool) : List C → Bool
  | [] => true
  | x :: xs => pur fl x && purL fl xs
end

mutual
/-- Cells that lean on no frame. -/
def clo : C → Bool
  | .int .. | .bool _ | .str _ | .nils | .nilp => true
  | .imm fl _ _ xs => !fl && purL fl xs
  | .inl _ _ xs => cloL xs
  | _ => false
def cloL : List C → Bool
  | [] => true
  | x :: xs => clo x && cloL xs
end

/-- A cell taken out of the frame for good. -/
def take1 (rec : Heap → List C → Option (List C × Heap)) (H : Heap) : C → Option (C × Heap)
  | .int a b => some (.int a b, H)
  | .bool b => some (.bool b, H)
  | .str s => some (.str s, H)
  | .nils => some (.nils, H)
  | .nilp => some (.nilp, H)
  | .imm false sz n xs => some (.imm false sz n xs, H)
  | .inl sz n xs => match rec H xs with
    | some (ys, H') => some (.inl sz n ys, H')
    | none => none
  | .ref e p sz lo n => match getN H e p with
    | some xs => match cut lo (n * sz) xs, kill H e p with
      | some ys, some H1 => match rec H1 ys with
        | some (zs, H') => some (.inl sz n zs, H')
        | none => none
      | _, _ => none
    | none => none
  | _ => none

def takeL : Nat → Heap → List C → Option (List C × Heap)
  | 0, _, _ => none
  | _ + 1, H, [] => some ([], H)
  | k + 1, H, c :: cs => match take1 (takeL k) H c with
    | none => none
    | some (y, H1) => match takeL k H1 cs with
      | some (ys, H2) => some (y :: ys, H2)
      | none => none

/-- Cells that came in as owned: each slice becomes an event of its own. -/
def bring (i : Nat × Nat × Nat) : Nat → Heap → List C → List C × Heap
  | _, H, [] => ([], H)
  | k, H, c :: cs => match c with
    | .inl sz n xs => (.ref (i.1, i.2.1, i.2.2, k) [] sz 0 n :: (bring i (k + 1) (upd H (i.1, i.2.1, i.2.2, k) (some xs)) cs).1,
        (bring i (k + 1) (upd H (i.1, i.2.1, i.2.2, k) (some xs)) cs).2)
    | c => (c :: (bring i (k + 1) H cs).1, (bring i (k + 1) H cs).2)

/-- The same of a value; a tuple's parts are numbered one behind the other. -/
def bringT (i : Nat × Nat × Nat) : Nat → Heap → List V → List V × Heap
  | _, H, [] => ([], H)
  | k, H, v :: vs => match v with
    | .c x => (.c ((bring i k H [x]).1.headD .dead) :: (bringT i (k + 1) (bring i k H [x]).2 vs).1, (bringT i (k + 1) (bring i k H [x]).2 vs).2)
    | .agg xs => (.agg (bring i k H xs).1 :: (bringT i (k + xs.length) (bring i k H xs).2 vs).1, (bringT i (k + xs.length) (bring i k H xs).2 vs).2)
    | .bx xs => (.c (.ptr (i.1, i.2.1, i.2.2, k) [] 0) :: (bringT i (k + 1) (upd H (i.1, i.2.1, i.2.2, k) (some xs)) vs).1, (bringT i (k + 1) (upd H (i.1, i.2.1, i.2.2, k) (some xs)) vs).2)
    | .tup _ => (.c .dead :: (bringT i k H vs).1, (bringT i k H vs).2)

def bringV (i : Nat × Nat × Nat) (H : Heap) : V → V × Heap
  | .tup vs => (.tup (bringT i 0 H vs).1, (bringT i 0 H vs).2)
  | v => ((bringT i 0 H [v]).1.headD (.c .dead), (bringT i 0 H [v]).2)

def takeU (k : Nat) (H : Heap) : V → Option (V × Heap)
  | .c (.ptr e [] 0) => match H e with
    | some xs => match takeL k (upd H e none) xs with
      | some (zs, H') => some (.bx zs, H')
      | none => none
    | none => none
  | .c x => match takeL k H [x] with
    | some ([y], H') => some (.c y, H')
    | _ => none
  | .agg xs => match takeL k H xs with
    | some (ys, H') => some (.agg ys, H')
    | none => none
  | _ => none

def takeT (k : Nat) : Heap → List V → Option (List V × Heap)
  | H, [] => some ([], H)
  | H, v :: vs => match takeU k H v with
    | some (u, H1) => match takeT k H1 vs with
      | some (us, H2) => some (u :: us, H2)
      | none => none
    | none => none

def snapU (k : Nat) (H : Heap) : V → Option V
  | .c (.ptr e p off) => match getN H e p with
    | some xs => if xs.all live = true then (xs.mapM (snap H k)).map fun ys => .c (.iptr true ys off) else none
    | none => none
  | .c x => (snap H k x).map .c
  | .agg xs => (xs.mapM (snap H k)).map .agg
  | _ => none

/-! ### one operation -/

def putT (T : Nat → V) (d : Option Nat) (v : V) : Nat → V :=
  match d with
  | some d => upd T d v
  | none => T

/-- A slice that is handed to append takes its parts in, where they are whole events. -/
def absorb : Heap → List C → List C × Heap
  | H, [] => ([], H)
  | H, c :: cs => match c with
    | .ref e [] sz 0 n => match H e with
      | some xs => if xs.length = n * sz then (.inl sz n xs :: (absorb (upd H e none) cs).1, (absorb (upd H e none) cs).2)
          else (c :: (absorb H cs).1, (absorb H cs).2)
      | none => (c :: (absorb H cs).1, (absorb H cs).2)
    | c => (c :: (absorb H cs).1, (absorb H cs).2)

def srcCells (H : Heap) (sz : Nat) (y : V) : Option (Nat × List C) :=
  match y with
  | .c .nils => some (0, [])
  | .c (.ref e p sz' lo n) => if sz' = sz then match getN H e p with
      | some xs => match cut lo (n * sz) xs with
        | some ys => some (n, looks e p lo ys)
        | none => none
      | none => none
    else none
  | .c (.imm _ sz' n xs) => if sz' = sz then some (n, xs) else none
  | .c (.str s) => if sz = 1 then some (s.size, s.data.toList.map fun b => .int .u8 (b.toNat : Int)) else none
  | _ => none

def appV (H : Heap) (id : Id) (sz bytes : Nat) (x y : V) : Option (V × Heap) :=
  match srcCells H sz y with
  | none => none
  | some (m, ys) => if ys.all lies = true then
    match x with
    | .c .nils => if m = 0 then some (.c .nils, H) else
      if m * bytes ≤ 2 ^ 46 then some (.c (.ref id [] sz 0 m), upd (absorb H ys).2 id (some (absorb H ys).1)) else none
    | .c (.ref e p sz' lo n) => if sz' = sz ∧ (n + m) * bytes ≤ 2 ^ 46 then
        match getN H e p with
        | some xs => match cut lo (n * sz) xs, kill H e p with
          | some old, some H1 => some (.c (.ref id [] sz 0 (n + m)), upd (absorb H1 ys).2 id (some (old ++ (absorb H1 ys).1)))
          | _, _ => none
        | none => none
      else none
    | _ => none
    else none

/-- Operations other than calls. -/
def step1 (o : AOper) (s : St) : Option St :=
  match o.o with
  | .load x sz ag => (loadV s.H (ev s.T x) sz ag).map fun v => { s with T := putT s.T o.d v }
  | .box x => match cellsV (ev s.T x) with
    | some vs => if vs.all lies = true then some { s with T := putT s.T o.d (.c (.ptr (s.n, o.ix, 0, 0) [] 0)), H := upd s.H (s.n, o.ix, 0, 0) (some vs) } else none
    | none => none
  | .alloc zero => if zero.all lies = true then some { s with T := putT s.T o.d (.c (.ptr (s.n, o.ix, 0, 0) [] 0)), H := upd s.H (s.n, o.ix, 0, 0) (some zero) } else none
  | .bslice sz n zero parts => if n * sz ≤ 2 ^ 24 ∧ zero.length = sz ∧ zero.all lies = true then match fillC s.T (rep n zero) parts with
      | some cs => some { s with T := putT s.T o.d (.c (.ref (s.n, o.ix, 0, 0) [] sz 0 n)), H := upd s.H (s.n, o.ix, 0, 0) (some cs) }
      | none => none
    else none
  | .mks sz bytes zero len cap => match ev s.T len, ev s.T cap with
    | .c (.int .i64 l), .c (.int .i64 c) => if 0 ≤ l ∧ l = c ∧ c * bytes ≤ 2 ^ 46 ∧ l ≤ 2 ^ 62 ∧ zero.length = sz ∧ zero.all lies = true then
        some { s with T := putT s.T o.d (.c (.ref (s.n, o.ix, 0, 0) [] sz 0 l.toNat)), H := upd s.H (s.n, o.ix, 0, 0) (some (rep l.toNat zero)) }
      else none
    | _, _ => none
  | .store x v sz => (storeV s.H (ev s.T x) (ev s.T v) sz).map fun H => { s with T := putT s.T o.d (.c .dead), H := H }
  | .app sz bytes x y => (appV s.H (s.n, o.ix, 0, 0) sz bytes (ev s.T x) (ev s.T y)).map fun r => { s with T := putT s.T o.d r.1, H := r.2 }
  | .call .. => none
  | op => (quiet s.T op).map fun v => { s with T := putT s.T o.d v }

/-! ### calls -/

structure Root where
  e : Id
  p : List Nat
  off : Nat
  s : Nat

def takeRoots (k : Nat) : List Root → Heap → List (Mode × V) → Option (List Root × List (List C) × Heap)
  | _, H, [] => some ([], [], H)
  | prev, H, (.io s, .c (.ptr e p off)) :: rest => if s ≠ 0 ∧ prev.all (fun t => decide (t.e ≠ e ∨ t.p ≠ p)) = true then
    match getN H e p with
    | some xs => match cut off s xs, turnN H e p (wr off (List.replicate s .dead)) with
      | some ys, some H1 => match takeL k H1 ys with
        | some (zs, H2) => match takeRoots k (⟨e, p, off, s⟩ :: prev) H2 rest with
          | some (rs, cs, H3) => some (⟨e, p, off, s⟩ :: rs, zs :: cs, H3)
          | none => none
        | none => none
      | _, _ => none
    | none => none
    else none
  | _, _, (.io _, _) :: _ => none
  | prev, H, _ :: rest => takeRoots k prev H rest

/-- A pointer into what a root holds. -/
def subPtr (H : Heap) (t : Root) (zs : List C) (e : Id) (p : List Nat) (off : Nat) : Option C :=
  match getN H e p with
  | none => none
  | some _ => if e = t.e ∧ t.p.isPrefixOf p = true then
    match p.drop t.p.length with
    | [] => if t.off ≤ off ∧ off < t.off + t.s then some (.ptr (0, 0, 0, 0) [] (off - t.off)) else none
    | j :: q => if t.off ≤ j ∧ j < t.off + t.s then match walk ((j - t.off) :: q) zs with
        | some _ => some (.ptr (0, 0, 0, 0) ((j - t.off) :: q) off)
        | none => none
      else none
    else none

/-- What is handed over for good. -/
def takeMvs (k : Nat) : Heap → List (Mode × V) → Option (List V × Heap)
  | H, [] => some ([], H)
  | H, (m, v) :: rest => match m with
    | .mv => match takeU k H v with
      | some (u, H1) => match takeMvs k H1 rest with
        | some (us, H2) => some (u :: us, H2)
        | none => none
      | none => none
    | _ => takeMvs k H rest

/-- The arguments as the callee has them. H0: the frame ahead of the call, H: behind all that was taken. -/
def passArgs (k : Nat) (H0 H : Heap) (rs : List Root) (zss : List (List C)) : Nat → List V → List (Mode × V) → Option (List V)
  | _, _, [] => some []
  | r, ms, (m, v) :: rest => match m with
    | .im => match snapU k H v, passArgs k H0 H rs zss r ms rest with
      | some u, some us => some (u :: us)
      | _, _ => none
    | .mv => match ms with
      | u :: ms => match passArgs k H0 H rs zss r ms rest with
        | some us => some (u :: us)
        | none => none
      | [] => none
    | .io _ => match passArgs k H0 H rs zss (r + 1) ms rest with
      | some us => some (.c (.ptr (0, 0, r, 0) [] 0) :: us)
      | none => none
    | .sub => match v, rs, zss with
      | .c (.ptr e p off), t :: _, zs :: _ => match subPtr H0 t zs e p off, passArgs k H0 H rs zss r ms rest with
        | some c, some us => some (.c c :: us)
        | _, _ => none
      | _, _, _ => none

/-- What the roots hold behind the call goes back to their places. -/
def backRoots (n ix : Nat) : Nat → Heap → List Root → List (List C) → Option Heap
  | _, H, [], [] => some H
  | r, H, t :: ts, zs :: zss => if zs.length = t.s then
      match turnN (bring (n, ix, r + 1) 0 H zs).2 t.e t.p (wr t.off (bring (n, ix, r + 1) 0 H zs).1) with
      | some H2 => backRoots n ix (r + 1) H2 ts zss
      | none => none
    else none
  | _, _, _, _ => none

/-! ### code -/

inductive ACode where
  | skip
  | reg (os : List AOper)
  | dreg (os : List AOper) (chk : List (Nat × Nat))
  | seq (a b : ACode)
  | cond (c : Opd) (a b : ACode)
  | block (id : Nat) (c : ACode)
  | loop (c : ACode)
  | exit (id : Nat)
  | ret
  deriving Inhabited

inductive AEx where
  | normal
  | exit (id : Nat)
  | ret

inductive ARes where
  | tmp (t : Nat)
  | cell (t s : Nat) (ag : Bool)
  deriving Inhabited

structure AFn where
  np : Nat
  res : List ARes
  body : ACode
  deriving Inhabited

def resOne (s : St) : ARes → Option V
  | .tmp t => some (s.T t)
  | .cell t sz ag => loadV s.H (s.T t) sz ag

def resAll (s : St) : List ARes → Option (List V)
  | [] => some []
  | r :: rs => match resOne s r, resAll s rs with
    | some v, some vs => some (v :: vs)
    | _, _ => none

/-- One result is itself, several are a tuple. -/
def pack : List V → V
  | [v] => v
  | vs => .tup vs

def rootsIn : Nat → List (List C) → Heap
  | _, [] => fun _ => none
  | r, zs :: rest => upd (rootsIn (r + 1) rest) (0, 0, r, 0) (some zs)

def bringArgs : Nat → Heap → List V → List V × Heap
  | _, H, [] => ([], H)
  | i, H, v :: vs => ((bringV (0, i + 1, 0) H v).1 :: (bringArgs (i + 1) (bringV (0, i + 1, 0) H v).2 vs).1, (bringArgs (i + 1) (bringV (0, i + 1, 0) H v).2 vs).2)

def start (args : List V) (roots : List (List C)) : St :=
  ⟨fun t => (bringArgs 0 (rootsIn 0 roots) args).1.getD t (.c .dead), (bringArgs 0 (rootsIn 0 roots) args).2, 1⟩

def takeBack (k : Nat) : Nat → Heap → Nat → Option (List (List C) × Heap)
  | _, H, 0 => some ([], H)
  | r, H, m + 1 => match H (0, 0, r, 0) with
    | some xs => match takeL k (upd H (0, 0, r, 0) none) xs with
      | some (zs, H1) => match takeBack k (r + 1) H1 m with
        | some (zss, H2) => some (zs :: zss, H2)
        | none => none
      | none => none
    | none => none

/-- A guard that lets its operation out. -/
def IsOff (T : Nat → V) (g : Option (Nat × Bool)) : Prop := ∃ t w, g = some (t, w) ∧ ((∃ b, T t = .c (.bool b) ∧ b ≠ w) ∨ T t = .tup [])

/-- An owned slice within an event becomes an event of its own. -/
def detach (H : Heap) (e : Id) (p : List Nat) (j : Nat) (id : Id) : Option Heap :=
  match getN H e p with
  | some xs => match xs[j]? with
    | some (.inl sz n ys) => match turnN H e p (fun xs => if j < xs.length then some (xs.set j (.ref id [] sz 0 n)) else none) with
      | some H1 => some (upd H1 id (some ys))
      | none => none
    | _ => none
  | none => none

/-- What was read, or made, at place l is so too with the heap of place k. -/
def recheck1 (os : List AOper) (hs : List Heap) (fin : St) (l k : Nat) : Prop :=
  ∃ o H, os[l]? = some o ∧ (hs ++ [fin.H])[k]? = some H ∧
    match o.o with
    | .load x sz ag => IsOff fin.T o.g ∨ ∃ d, o.d = some d ∧ loadV H (ev fin.T x) sz ag = some (fin.T d)
    | _ => ∃ H1, (hs ++ [fin.H])[l + 1]? = some H1 ∧ H (fin.n, o.ix, 0, 0) = H1 (fin.n, o.ix, 0, 0)

def recheck (os : List AOper) (hs : List Heap) (fin : St) : List (Nat × Nat) → Prop
  | [] => True
  | (l, k) :: rest => recheck1 os hs fin l k ∧ recheck os hs fin rest

inductive J where
  | code (c : ACode) (s : St) (ex : AEx) (s' : St)
  | ops (os : List AOper) (s : St) (hs : List Heap) (s' : St)
  | fn (f : FuncId) (args : List V) (roots : List (List C)) (res : V) (roots' : List (List C))

def args2 (T : Nat → V) (as : List (Mode × Opd)) : List (Mode × V) := as.map fun a => (a.1, ev T a.2)

def plainV : V → Bool
  | .c _ | .agg _ => true
  | _ => false

mutual
/-- Cells that are read only may stand for less: no slice for an empty one. -/
def leC (fl : Bool) : C → C → Prop
  | .nils, y => y = .nils ∨ ∃ sz, y = .imm fl sz 0 []
  | .imm f s n xs, y => ∃ ys, y = .imm f s n ys ∧ leL f xs ys
  | .iptr f xs o, y => ∃ ys, y = .iptr f ys o ∧ leL f xs ys
  | x, y => x = y
def leL (fl : Bool) : List C → List C → Prop
  | [], ys => ys = []
  | x :: xs, ys => ∃ y ys', ys = y :: ys' ∧ leC fl x y ∧ leL fl xs ys'
end

def leV : V → V → Prop
  | .c x, v => ∃ fl y, v = .c y ∧ leC fl x y
  | .agg xs, v => ∃ fl ys, v = .agg ys ∧ leL fl xs ys
  | u, v => u = v

def leVs : List V → List V → Prop
  | [], vs => vs = []
  | u :: us, vs => ∃ v vs', vs = v :: vs' ∧ leV u v ∧ leVs us vs'

inductive Runs (Γ : FuncId → Option AFn) : J → Prop
  | skip {s} : Runs Γ (.code .skip s .normal s)
  | exit {s id} : Runs Γ (.code (.exit id) s (.exit id) s)
  | ret {s} : Runs Γ (.code .ret s .ret s)
  | reg {s os hs s'} (h : Runs Γ (.ops os s hs s')) : Runs Γ (.code (.reg os) s .normal { s' with n := s'.n + 1 })
  | dreg {s os chk hs s'} (h : Runs Γ (.ops os s hs s')) (hc : recheck os hs s' chk) (hn : s'.n = s.n) : Runs Γ (.code (.dreg os chk) s .normal { s' with n := s'.n + 1 })
  | seq {a b s s1 ex s2} (h : Runs Γ (.code a s .normal s1)) (h' : Runs Γ (.code b s1 ex s2)) : Runs Γ (.code (.seq a b) s ex s2)
  | seqX {a b s ex s1} (h : Runs Γ (.code a s ex s1)) (hx : ex ≠ .normal) : Runs Γ (.code (.seq a b) s ex s1)
  | cond {c a b s t ex s'} (hc : ev s.T c = .c (.bool t)) (h : Runs Γ (.code (if t then a else b) s ex s')) : Runs Γ (.code (.cond c a b) s ex s')
  | block {id c s ex s'} (h : Runs Γ (.code c s ex s')) (hx : ex ≠ .exit id) : Runs Γ (.code (.block id c) s ex s')
  | blockX {id c s s'} (h : Runs Γ (.code c s (.exit id) s')) : Runs Γ (.code (.block id c) s .normal s')
  | loop {c s s1 ex s2} (h : Runs Γ (.code c s .normal s1)) (h' : Runs Γ (.code (.loop c) s1 ex s2)) : Runs Γ (.code (.loop c) s ex s2)
  | loopX {c s ex s1} (h : Runs Γ (.code c s ex s1)) (hx : ex ≠ .normal) : Runs Γ (.code (.loop c) s ex s1)
  | det {c s e p j H' ex s'} (hd : detach s.H e p j (s.n, 0, 0, 0) = some H') (h : Runs Γ (.code c ⟨s.T, H', s.n + 1⟩ ex s')) : Runs Γ (.code c s ex s')
  | nil {s} : Runs Γ (.ops [] s [] s)
  | off {o os s hs s'} (hg : IsOff s.T o.g) (h : Runs Γ (.ops os { s with T := putT s.T o.d (.tup []) } hs s')) : Runs Γ (.ops (o :: os) s (s.H :: hs) s')
  | one {o os s s1 hs s'} (hg : o.g = none ∨ ∃ t w, o.g = some (t, w) ∧ s.T t = .c (.bool w)) (h1 : step1 o s = some s1)
      (h : Runs Γ (.ops os s1 hs s')) : Runs Γ (.ops (o :: os) s (s.H :: hs) s')
  | call {o os s hs s' f as k rs zss H1 ms us H2 v zss' H3 H4} (ho : o.o = .call f as)
      (hg : o.g = none ∨ ∃ t w, o.g = some (t, w) ∧ s.T t = .c (.bool w))
      (hr : takeRoots k [] s.H (args2 s.T as) = some (rs, zss, H1)) (hm : takeMvs k H1 (args2 s.T as) = some (ms, H2)) (hp : passArgs k s.H H2 rs zss 0 ms (args2 s.T as) = some us)
      (hf : Runs Γ (.fn f us zss v zss')) (hb : backRoots s.n o.ix 0 H2 rs zss' = some H3) (hv : (bringV (s.n, o.ix, 0) H3 v).2 = H4)
      (h : Runs Γ (.ops os { s with T := putT s.T o.d (bringV (s.n, o.ix, 0) H3 v).1, H := H4 } hs s')) : Runs Γ (.ops (o :: os) s (s.H :: hs) s')
  | icall {o os s hs s' f as fn ex s1 vs} (ho : o.o = .call f as) (hg : o.g = none ∨ ∃ t w, o.g = some (t, w) ∧ s.T t = .c (.bool w)) (hf : Γ f = some fn) (ha : as.length = fn.np)
      (h : Runs Γ (.code fn.body ⟨fun t => (as.map fun a => ev s.T a.2).getD t (.c .dead), s.H, s.n + 1⟩ ex s1)) (hx : ex = .normal ∨ ex = .ret) (hr : resAll s1 fn.res = some vs) (hv : vs.all plainV = true)
      (h' : Runs Γ (.ops os ⟨putT s.T o.d (pack vs), s1.H, s1.n⟩ hs s')) : Runs Γ (.ops (o :: os) s (s.H :: hs) s')
  | fn {f fn args roots ex s' vs k us H1 zss H2} (hf : Γ f = some fn) (ha : args.length = fn.np) (h : Runs Γ (.code fn.body (start args roots) ex s'))
      (hx : ex = .normal ∨ ex = .ret) (hr : resAll s' fn.res = some vs) (ht : takeT k s'.H vs = some (us, H1)) (hb : takeBack k 0 H1 roots.length = some (zss, H2)) :
      Runs Γ (.fn f args roots (pack us) zss)
  | weak {f args args' roots v roots'} (hw : leVs args args') (h : Runs Γ (.fn f args' roots v roots')) : Runs Γ (.fn f args roots v roots')

end Go.Proofs.Ytgodaiiegcdpcaa.Abs
end
section
set_option linter.unusedVariables false
set_option linter.unusedSimpArgs false
namespace Go.Proofs.Ytgodaiiegcdpcaa.Abs

section
variable {Γ : FuncId → Option AFn}

structure W (Γ : FuncId → Option AFn) (c : ACode) (s : St) (Q : AEx → St → Prop) : Prop where
  run : ∃ ex s', Runs Γ (.code c s ex s') ∧ Q ex s'
structure WO (Γ : FuncId → Option AFn) (os : List AOper) (s : St) (R : List Heap → St → Prop) : Prop where
  run : ∃ hs s', Runs Γ (.ops os s hs s') ∧ R hs s'

variable {s s1 : St} {Q : AEx → St → Prop} {R : List Heap → St → Prop} {a b c : ACode} {os : List AOper} {o : AOper}

theorem W.mono {Q' : AEx → St → Prop} (h : W Γ c s Q) (k : ∀ ex s', Q ex s' → Q' ex s') : W Γ c s Q' := by
  obtain ⟨ex, s', h1, h2⟩ := h
  exact ⟨ex, s', h1, k _ _ h2⟩

theorem W.skip (h : Q .normal s) : W Γ .skip s Q := ⟨_, _, .skip, h⟩
theorem W.exit {id : Nat} (h : Q (.exit id) s) : W Γ (.exit id) s Q := ⟨_, _, .exit, h⟩
theorem W.ret (h : Q .ret s) : W Γ .ret s Q := ⟨_, _, .ret, h⟩

def thenW (Γ : FuncId → Option AFn) (b : ACode) (Q : AEx → St → Prop) : AEx → St → Prop
  | .normal, s => W Γ b s Q
  | ex, s => Q ex s

theorem W.seq (h : W Γ a s (thenW Γ b Q)) : W Γ (.seq a b) s Q := by
  obtain ⟨ex, s', h1, h2⟩ := h
  cases ex with
  | normal =>
    obtain ⟨ex2, s2, h3, h4⟩ := h2
    exact ⟨ex2, s2, .seq h1 h3, h4⟩
  | exit id => exact ⟨_, s', .seqX h1 (by simp), h2⟩
  | ret => exact ⟨_, s', .seqX h1 (by simp), h2⟩

/-- A slice owned within an event is told by an event of its own. -/
theorem W.det {T : Nat → V} {H H' : Heap} {n : Nat} (e : Id) (p : List Nat) (j : Nat) (hd : detach H e p j (n, 0, 0, 0) = some H') (h : W Γ c ⟨T, H', n + 1⟩ Q) : W Γ c ⟨T, H, n⟩ Q := by
  obtain ⟨ex, s', h1, h2⟩ := h
  exact ⟨ex, s', .det (s := ⟨T, H, n⟩) hd h1, h2⟩

theorem W.cond {x : Opd} (t : Bool) (hc : ev s.T x = .c (.bool t)) (h : W Γ (if t then a else b) s Q) : W Γ (.cond x a b) s Q := by
  obtain ⟨ex, s', h1, h2⟩ := h
  exact ⟨ex, s', .cond hc h1, h2⟩

def blockW (id : Nat) (Q : AEx → St → Prop) : AEx → St → Prop
  | .exit id', s => if id' = id then Q .normal s else Q (.exit id') s
  | ex, s => Q ex s

theorem W.block {id : Nat} (h : W Γ c s (blockW id Q)) : W Γ (.block id c) s Q := by
  obtain ⟨ex, s', h1, h2⟩ := h
  cases ex with
  | normal => exact ⟨_, s', .block h1 (by simp), h2⟩
  | exit id' =>
    by_cases hid : id' = id
    · subst hid
      exact ⟨_, s', .blockX h1, by simpa [blockW] using h2⟩
    · exact ⟨_, s', .block h1 (by simp [hid]), by simpa [blockW, hid] using h2⟩
  | ret => exact ⟨_, s', .block h1 (by simp), h2⟩

def roundW (I : Nat → St → Prop) (n : Nat) (Q : AEx → St → Prop) : AEx → St → Prop
  | .normal, s => ∃ m, m < n ∧ I m s
  | ex, s => Q ex s

/-- A loop by an invariant with a measure. -/
theorem W.loop (I : Nat → St → Prop) (n : Nat) (h0 : I n s) (round : ∀ n s, I n s → W Γ c s (roundW I n Q)) : W Γ (.loop c) s Q := by
  induction n using Nat.strongRecOn generalizing s with
  | _ n ih =>
    obtain ⟨ex, s', h1, h2⟩ := round n s h0
    cases ex with
    | normal =>
      obtain ⟨m, hm, hI⟩ := h2
      obtain ⟨ex2, s2, h3, h4⟩ := ih m hm hI
      exact ⟨ex2, s2, .loop h1 h3, h4⟩
    | exit id => exact ⟨_, s', .loopX h1 (by simp), h2⟩
    | ret => exact ⟨_, s', .loopX h1 (by simp), h2⟩

def regQ (Q : AEx → St → Prop) : List Heap → St → Prop
  | _, ⟨T, H, n⟩ => Q .normal ⟨T, H, n + 1⟩

theorem W.reg (h : WO Γ os s (regQ Q)) : W Γ (.reg os) s Q := by
  obtain ⟨hs, ⟨T, H, n⟩, h1, h2⟩ := h
  exact ⟨_, _, .reg h1, h2⟩

def dregQ (os : List AOper) (chk : List (Nat × Nat)) (n0 : Nat) (Q : AEx → St → Prop) : List Heap → St → Prop
  | hs, ⟨T, H, n⟩ => n = n0 ∧ recheck os hs ⟨T, H, n⟩ chk ∧ Q .normal ⟨T, H, n + 1⟩

theorem W.dreg {T : Nat → V} {H : Heap} {n : Nat} {chk : List (Nat × Nat)} (h : WO Γ os ⟨T, H, n⟩ (dregQ os chk n Q)) : W Γ (.dreg os chk) ⟨T, H, n⟩ Q := by
  obtain ⟨hs, ⟨T', H', n'⟩, h1, h0, h2, h3⟩ := h
  exact ⟨_, _, .dreg h1 h2 h0, h3⟩

theorem WO.nil (h : R [] s) : WO Γ [] s R := ⟨_, _, .nil, h⟩

theorem WO.one (hg : o.g = none) (h1 : step1 o s = some s1) (h : WO Γ os s1 fun hs => R (s.H :: hs)) : WO Γ (o :: os) s R := by
  obtain ⟨hs, s', h2, h3⟩ := h
  exact ⟨_, _, .one (.inl hg) h1 h2, h3⟩

theorem WO.on {t : Nat} {w : Bool} (hg : o.g = some (t, w)) (ht : s.T t = .c (.bool w)) (h1 : step1 o s = some s1) (h : WO Γ os s1 fun hs => R (s.H :: hs)) : WO Γ (o :: os) s R := by
  obtain ⟨hs, s', h2, h3⟩ := h
  exact ⟨_, _, .one (.inr ⟨t, w, hg, ht⟩) h1 h2, h3⟩

theorem WO.off (hg : IsOff s.T o.g) (h : WO Γ os ⟨putT s.T o.d (.tup []), s.H, s.n⟩ fun hs => R (s.H :: hs)) : WO Γ (o :: os) s R := by
  obtain ⟨hs, s', h2, h3⟩ := h
  exact ⟨_, _, .off hg h2, h3⟩

theorem WO.call {f : FuncId} {as : List (Mode × Opd)} (k : Nat) {rs : List Root} {zss : List (List C)} {H1 H2 H3 H4 : Heap} {ms us : List V} {v v' : V} {zss' : List (List C)} (ho : o.o = .call f as) (hg : o.g = none ∨ ∃ t w, o.g = some (t, w) ∧ s.T t = .c (.bool w))
    (hr : takeRoots k [] s.H (args2 s.T as) = some (rs, zss, H1)) (hm : takeMvs k H1 (args2 s.T as) = some (ms, H2)) (hp : passArgs k s.H H2 rs zss 0 ms (args2 s.T as) = some us)
    (hf : Runs Γ (.fn f us zss v zss')) (hb : backRoots s.n o.ix 0 H2 rs zss' = some H3) (hv : bringV (s.n, o.ix, 0) H3 v = (v', H4))
    (h : WO Γ os ⟨putT s.T o.d v', H4, s.n⟩ fun hs => R (s.H :: hs)) : WO Γ (o :: os) s R := by
  obtain ⟨hs, s', h2, h3⟩ := h
  refine ⟨_, _, .call ho hg hr hm hp hf hb (H4 := H4) (by rw [hv]) ?_, h3⟩
  rw [hv]
  exact h2

/-- What is handed to a callee that runs in its caller's heap. -/
def argT (T : Nat → V) (as : List (Mode × Opd)) : Nat → V := fun t => (as.map fun a => ev T a.2).getD t (.c .dead)

/-- How such a callee ends. -/
structure inlQ (res : List ARes) (K : V → Heap → Nat → Prop) (ex : AEx) (s : St) : Prop where
  ex : ex = .normal ∨ ex = .ret
  ans : ∃ vs, resAll s res = some vs ∧ vs.all plainV = true ∧ K (pack vs) s.H s.n

theorem WO.icall {T : Nat → V} {H : Heap} {n ix : Nat} {d : Option Nat} {f : FuncId} {fn : AFn} {as : List (Mode × Opd)} (hf : Γ f = some fn) (ha : as.length = fn.np)
    (h : W Γ fn.body ⟨argT T as, H, n + 1⟩ (inlQ fn.res fun v H1 n1 => WO Γ os ⟨putT T d v, H1, n1⟩ fun hs => R (H :: hs))) : WO Γ (⟨ix, d, none, .call f as⟩ :: os) ⟨T, H, n⟩ R := by
  obtain ⟨ex, s1, h1, ⟨hx, vs, h2, h3, ⟨hs, s', h4, h5⟩⟩⟩ := h
  exact ⟨_, _, .icall (s := ⟨T, H, n⟩) rfl (.inl rfl) hf ha h1 hx h2 h3 h4, h5⟩

def isQ : AOp → Bool
  | .load .. | .b2s _ | .box _ | .alloc _ | .bslice .. | .mks .. | .store .. | .app .. | .call .. => false
  | _ => true

theorem step1_q {o : AOper} (h : isQ o.o = true) (s : St) : step1 o s = (quiet s.T o.o).map fun v => { s with T := putT s.T o.d v } := by
  obtain ⟨ix, d, g, op⟩ := o
  cases op <;> first
    | rfl
    | cases h

variable {T : Nat → V} {H H' : Heap} {n ix d : Nat} {op : AOp} {v : V}

theorem WO.q (hq : quiet T op = some v) (h : WO Γ os ⟨upd T d v, H, n⟩ fun hs => R (H :: hs)) (hi : isQ op = true := by rfl) : WO Γ (⟨ix, some d, none, op⟩ :: os) ⟨T, H, n⟩ R :=
  WO.one rfl (by rw [step1_q hi]; simp only [hq]; rfl) h

theorem WO.ld {x : Opd} {sz : Nat} {ag : Bool} (hq : loadV H (ev T x) sz ag = some v) (h : WO Γ os ⟨upd T d v, H, n⟩ fun hs => R (H :: hs)) : WO Γ (⟨ix, some d, none, .load x sz ag⟩ :: os) ⟨T, H, n⟩ R :=
  WO.one rfl (by simp only [step1, hq]; rfl) h

theorem WO.st {x y : Opd} {sz : Nat} (hq : storeV H (ev T x) (ev T y) sz = some H') (h : WO Γ os ⟨T, H', n⟩ fun hs => R (H :: hs)) : WO Γ (⟨ix, none, none, .store x y sz⟩ :: os) ⟨T, H, n⟩ R :=
  WO.one rfl (by simp only [step1, hq]; rfl) h

/-- A call that is only lent what it is handed. -/
theorem WO.im {f : FuncId} {as : List (Mode × Opd)} (k : Nat) {us : List V} {v' : V} {H4 : Heap} (hr : takeRoots k [] H (args2 T as) = some ([], [], H)) (hm : takeMvs k H (args2 T as) = some ([], H)) (hp : passArgs k H H [] [] 0 [] (args2 T as) = some us)
    (hf : Runs Γ (.fn f us [] v [])) (hv : bringV (n, ix, 0) H v = (v', H4)) (h : WO Γ os ⟨upd T d v', H4, n⟩ fun hs => R (H :: hs)) : WO Γ (⟨ix, some d, none, .call f as⟩ :: os) ⟨T, H, n⟩ R :=
  WO.call k rfl (.inl rfl) hr hm hp hf rfl hv h

theorem WO.bx {x : Opd} {vs : List C} (hc : cellsV (ev T x) = some vs) (hl : vs.all lies = true) (h : WO Γ os ⟨upd T d (.c (.ptr (n, ix, 0, 0) [] 0)), upd H (n, ix, 0, 0) (some vs), n⟩ fun hs => R (H :: hs)) :
    WO Γ (⟨ix, some d, none, .box x⟩ :: os) ⟨T, H, n⟩ R :=
  WO.one rfl (by simp only [step1, hc, hl, if_true]; rfl) h

theorem WO.al {zero : List C} (hl : zero.all lies = true) (h : WO Γ os ⟨upd T d (.c (.ptr (n, ix, 0, 0) [] 0)), upd H (n, ix, 0, 0) (some zero), n⟩ fun hs => R (H :: hs)) : WO Γ (⟨ix, some d, none, .alloc zero⟩ :: os) ⟨T, H, n⟩ R :=
  WO.one rfl (by simp only [step1, hl, if_true]; rfl) h

theorem WO.mks {sz bytes : Nat} {zero : List C} {x y : Opd} {l : Nat} (h1 : ev T x = .c (.int .i64 l)) (h2 : ev T y = .c (.int .i64 l)) (hb : (l : Int) * bytes ≤ 2 ^ 46) (hl : (l : Int) ≤ 2 ^ 62) (hz : zero.length = sz) (hz2 : zero.all lies = true)
    (h : WO Γ os ⟨upd T d (.c (.ref (n, ix, 0, 0) [] sz 0 l)), upd H (n, ix, 0, 0) (some (rep l zero)), n⟩ fun hs => R (H :: hs)) : WO Γ (⟨ix, some d, none, .mks sz bytes zero x y⟩ :: os) ⟨T, H, n⟩ R := by
  refine WO.one rfl ?_ h
  simp only [step1, h1, h2]
  rw [if_pos ⟨by omega, trivial, hb, hl, hz, hz2⟩]
  rfl

theorem WO.ap {sz bytes : Nat} {x y : Opd} (hq : appV H (n, ix, 0, 0) sz bytes (ev T x) (ev T y) = some (v, H')) (h : WO Γ os ⟨upd T d v, H', n⟩ fun hs => R (H :: hs)) : WO Γ (⟨ix, some d, none, .app sz bytes x y⟩ :: os) ⟨T, H, n⟩ R :=
  WO.one rfl (by simp only [step1, hq]; rfl) h

theorem WO.bs {sz m : Nat} {zero cs : List C} {ps : List (Nat × Nat × Opd)} (hc : m * sz ≤ 2 ^ 24 ∧ zero.length = sz ∧ zero.all lies = true) (hf : fillC T (rep m zero) ps = some cs)
    (h : WO Γ os ⟨upd T d (.c (.ref (n, ix, 0, 0) [] sz 0 m)), upd H (n, ix, 0, 0) (some cs), n⟩ fun hs => R (H :: hs)) : WO Γ (⟨ix, some d, none, .bslice sz m zero ps⟩ :: os) ⟨T, H, n⟩ R := by
  refine WO.one rfl ?_ h
  simp only [step1]
  rw [if_pos hc]
  simp only [hf]
  rfl

theorem W.fn {f : FuncId} {fn : AFn} {args : List V} {roots : List (List C)} {us : List V} {zss : List (List C)} (hf : Γ f = some fn) (ha : args.length = fn.np)
    (h : W Γ fn.body (start args roots) fun ex s' => (ex = .normal ∨ ex = .ret) ∧ ∃ k vs H1 H2, resAll s' fn.res = some vs ∧ takeT k s'.H vs = some (us, H1) ∧ takeBack k 0 H1 roots.length = some (zss, H2)) : Runs Γ (.fn f args roots (pack us) zss) := by
  obtain ⟨ex, s', h1, h2, k, vs, H1, H2, h3, h4, h5⟩ := h
  exact .fn hf ha h1 h2 h3 h4 h5

end
end Go.Proofs.Ytgodaiiegcdpcaa.Abs
end
section
set_option linter.unusedVariables false
set_option linter.unusedSimpArgs false
namespace Go.Proofs.Ytgodaiiegcdpcaa.Abs
open Go.RowKit (Below)

abbrev Key := Nat × Nat × Nat

structure Env where
  w : World
  Z : Bool → Nat → Prop
  G : Id → List Nat → Key
  Al : Id → Prop
  X : Nat → Nat → Prop

def At (w : World) (b o : Nat) (vs : List Value) : Prop := ∀ (i : Nat) (v : Value), vs[i]? = some v → w.cell? ⟨b, o + i, none⟩ = some v

/-- A block of cells that may be written from o on, so many. -/
def Blk (E : Env) (b o N : Nat) : Prop := ∃ c t, E.w.heap[b]? = some (.cells c t (0, 0)) ∧ o + N ≤ c.size ∧ ∀ k, o ≤ k → k < o + N → ¬ E.X b k

def g0 : Nat → List Nat → Key := fun _ _ => (0, 0, 0)

mutual
def Rel (E : Env) (h : List Nat → Key) : C → Value → List Nat → Prop
  | .int k n, v, F => v = .int k n ∧ F = []
  | .bool b, v, F => v = .bool b ∧ F = []
  | .str s, v, F => v = .string s ∧ F = []
  | .nils, v, F => v = .slice none 0 0 ∧ F = []
  | .nilp, v, F => v = .pointer none ∧ F = []
  | .dead, _, F => F = []
  | .imm fl sz n xs, v, F => F = [] ∧ xs.length = n * sz ∧ purL fl xs = true ∧ ∃ a cap, v = .slice a n cap ∧ n ≤ cap ∧
      (xs = [] ∨ ∃ b o vs, a = some ⟨b, o, none⟩ ∧ E.Z fl b ∧ At E.w b o vs ∧ RelL E g0 xs vs [])
  | .iptr fl xs off, v, F => F = [] ∧ ∃ b o vs, v = .pointer (some ⟨b, o + off, none⟩) ∧ E.Z fl b ∧ At E.w b o vs ∧ RelL E g0 xs vs []
  | .inl sz n xs, v, F => xs.length = n * sz ∧ ∃ b o cap vs F', v = .slice (some ⟨b, o, none⟩) n cap ∧ n ≤ cap ∧ h [] = (b, o, cap * sz) ∧ F = b :: F' ∧
      Blk E b o (cap * sz) ∧ At E.w b o vs ∧ RelL E (fun j q => h (j :: q)) xs vs F'
  | .ref e p sz lo n, v, F => F = [] ∧ E.Al e ∧ ∃ o cap, v = .slice (some ⟨(E.G e p).1, o, none⟩) n cap ∧ n ≤ cap ∧ (cap * sz = 0 ∨ o = (E.G e p).2.1 + lo) ∧
      (cap * sz = 0 ∨ lo + cap * sz ≤ (E.G e p).2.2) ∧ o ≤ (E.G e p).2.1 + (E.G e p).2.2
  | .ptr e p off, v, F => F = [] ∧ E.Al e ∧ v = .pointer (some ⟨(E.G e p).1, (E.G e p).2.1 + off, none⟩)
def RelL (E : Env) (g : Nat → List Nat → Key) : List C → List Value → List Nat → Prop
  | [], vs, F => vs = [] ∧ F = []
  | x :: xs, vs, F => ∃ v vs' F1 F2, vs = v :: vs' ∧ F = F1 ++ F2 ∧ Rel E (g 0) x v F1 ∧ RelL E (fun j => g (j + 1)) xs vs' F2
end

theorem At.of_block {w w' : World} {b o : Nat} {vs : List Value} (h : At w b o vs) (hb : w'.heap[b]? = w.heap[b]?) : At w' b o vs :=
  fun i v hv => by rw [World.cell?_of_block (w := w) hb]; exact h i v hv

theorem Blk.of_block {E E' : Env} {b o N : Nat} (h : Blk E b o N) (hb : E'.w.heap[b]? = E.w.heap[b]?) (hX : ∀ b k, E'.X b k → E.X b k) : Blk E' b o N := by
  obtain ⟨c, t, h1, h2, h3⟩ := h
  exact ⟨c, t, hb.trans h1, h2, fun k hk hk' hx => h3 k hk hk' (hX _ _ hx)⟩

structure Env.Keeps (E E' : Env) : Prop where
  zone : ∀ fl b, E.Z fl b → E'.Z fl b ∧ E'.w.heap[b]? = E.w.heap[b]?
  key : ∀ e p, E.Al e → E'.G e p = E.G e p
  al : ∀ e, E.Al e → E'.Al e
  prot : ∀ b k, E'.X b k → E.X b k

structure Env.Le (E E' : Env) (F : List Nat) : Prop extends Env.Keeps E E' where
  own : ∀ b ∈ F, E'.w.heap[b]? = E.w.heap[b]?

theorem Env.Le.sub {E E' : Env} {F F' : List Nat} (h : E.Le E' F) (hs : ∀ b ∈ F', b ∈ F) : E.Le E' F' :=
  ⟨h.toKeeps, fun b hb => h.own b (hs b hb)⟩

theorem Env.Keeps.le {E E' : Env} (h : E.Keeps E') : E.Le E' [] := ⟨h, by simp⟩

theorem Env.Keeps.refl (E : Env) : E.Keeps E := ⟨fun _ _ h => ⟨h, rfl⟩, fun _ _ _ => rfl, fun _ h => h, fun _ _ h => h⟩

mutual
theorem Rel.mono {E E' : Env} : ∀ (x : C) {h : List Nat → Key} {v : Value} {F : List Nat}, E.Le E' F → Rel E h x v F → Rel E' h x v F
  | .int k n, _, _, _, _, r => by simpa only [Rel] using r
  | .bool b, _, _, _, _, r => by simpa only [Rel] using r
  | .str s, _, _, _, _, r => by simpa only [Rel] using r
  | .nils, _, _, _, _, r => by simpa only [Rel] using r
  | .nilp, _, _, _, _, r => by simpa only [Rel] using r
  | .dead, _, _, _, _, r => by simpa only [Rel] using r
  | .imm fl sz n xs, h, v, F, l, r => by
    simp only [Rel] at r ⊢
    obtain ⟨rfl, hl, hcl, a, cap, rfl, hc, hx⟩ := r
    refine ⟨rfl, hl, hcl, a, cap, rfl, hc, ?_⟩
    rcases hx with hx | ⟨b, o, vs, rfl, hz, hat, hr⟩
    · exact .inl hx
    · exact .inr ⟨b, o, vs, rfl, (l.zone fl b hz).1, hat.of_block (l.zone fl b hz).2, RelL.mono xs (l.sub (by simp)) hr⟩
  | .iptr fl xs off, h, v, F, l, r => by
    simp only [Rel] at r ⊢
    obtain ⟨rfl, b, o, vs, rfl, hz, hat, hr⟩ := r
    exact ⟨rfl, b, o, vs, rfl, (l.zone fl b hz).1, hat.of_block (l.zone fl b hz).2, RelL.mono xs (l.sub (by simp)) hr⟩
  | .inl sz n xs, h, v, F, l, r => by
    simp only [Rel] at r ⊢
    obtain ⟨hl, b, o, cap, vs, F', rfl, hc, hk, rfl, hb, hat, hr⟩ := r
    have he := l.own b (by simp)
    exact ⟨hl, b, o, cap, vs, F', rfl, hc, hk, rfl, hb.of_block he l.prot, hat.of_block he, RelL.mono xs (l.sub (by simp +contextual)) hr⟩
  | .ref e p sz lo n, h, v, F, l, r => by
    simp only [Rel] at r ⊢
    obtain ⟨rfl, ha, r⟩ := r
    rw [l.key e p ha]
    exact ⟨rfl, l.al e ha, r⟩
  | .ptr e p off, h, v, F, l, r => by
    simp only [Rel] at r ⊢
    obtain ⟨rfl, ha, r⟩ := r
    rw [l.key e p ha]
    exact ⟨rfl, l.al e ha, r⟩
theorem RelL.mono {E E' : Env} : ∀ (xs : List C) {g : Nat → List Nat → Key} {vs : List Value} {F : List Nat}, E.Le E' F → RelL E g xs vs F → RelL E' g xs vs F
  | [], _, _, _, _, r => by simpa only [RelL] using r
  | x :: xs, g, vs, F, l, r => by
    simp only [RelL] at r ⊢
    obtain ⟨v, vs', F1, F2, rfl, rfl, h1, h2⟩ := r
    exact ⟨v, vs', F1, F2, rfl, rfl, Rel.mono x (l.sub (by simp +contextual)) h1, RelL.mono xs (l.sub (by simp +contextual)) h2⟩
end

/-! ### rows of cells -/

theorem RelL.length {E : Env} : ∀ {xs : List C} {g : Nat → List Nat → Key} {vs : List Value} {F : List Nat}, RelL E g xs vs F → vs.length = xs.length
  | [], _, _, _, r => by simp only [RelL] at r; simp [r.1]
  | x :: xs, g, vs, F, r => by
    simp only [RelL] at r
    obtain ⟨v, vs', F1, F2, rfl, rfl, h1, h2⟩ := r
    simp [h2.length]

theorem RelL.append_inv {E : Env} : ∀ {xs ys : List C} {g : Nat → List Nat → Key} {vs : List Value} {F : List Nat}, RelL E g (xs ++ ys) vs F →
    ∃ vs1 vs2 F1 F2, vs = vs1 ++ vs2 ∧ F = F1 ++ F2 ∧ RelL E g xs vs1 F1 ∧ RelL E (fun j => g (xs.length + j)) ys vs2 F2
  | [], ys, g, vs, F, r => ⟨[], vs, [], F, rfl, rfl, by simp [RelL], by simpa using r⟩
  | x :: xs, ys, g, vs, F, r => by
    simp only [List.cons_append, RelL] at r
    obtain ⟨v, vs', F1, F2, rfl, rfl, h1, h2⟩ := r
    obtain ⟨vs1, vs2, F3, F4, rfl, rfl, h3, h4⟩ := h2.append_inv
    refine ⟨v :: vs1, vs2, F1 ++ F3, F4, rfl, by simp, ?_, ?_⟩
    · simp only [RelL]
      exact ⟨v, vs1, F1, F3, rfl, rfl, h1, h3⟩
    · have : (fun j => g (xs.length + j + 1)) = fun j => g ((x :: xs).length + j) := by funext j; congr 1; simp; omega
      rw [← this]; exact h4

theorem RelL.append {E : Env} : ∀ {xs ys : List C} {g : Nat → List Nat → Key} {vs1 vs2 : List Value} {F1 F2 : List Nat}, RelL E g xs vs1 F1 →
    RelL E (fun j => g (xs.length + j)) ys vs2 F2 → RelL E g (xs ++ ys) (vs1 ++ vs2) (F1 ++ F2)
  | [], ys, g, vs1, vs2, F1, F2, r, r2 => by
    simp only [RelL] at r
    obtain ⟨rfl, rfl⟩ := r
    simpa using r2
  | x :: xs, ys, g, vs1, vs2, F1, F2, r, r2 => by
    simp only [RelL] at r
    obtain ⟨v, vs', F3, F4, rfl, rfl, h1, h2⟩ := r
    simp only [List.cons_append, RelL]
    refine ⟨v, vs' ++ vs2, F3, F4 ++ F2, rfl, by simp, h1, h2.append ?_⟩
    have : (fun j => g ((x :: xs).length + j)) = fun j => g (xs.length + j + 1) := by funext j; congr 1; simp; omega
    rw [← this]; exact r2

theorem RelL.get {E : Env} : ∀ {xs : List C} {g : Nat → List Nat → Key} {vs : List Value} {F : List Nat} {i : Nat} {x : C}, RelL E g xs vs F → xs[i]? = some x →
    ∃ v F1, vs[i]? = some v ∧ Rel E (g i) x v F1 ∧ F1.Sublist F
  | [], _, _, _, _, _, _, hx => by simp at hx
  | y :: xs, g, vs, F, i, x, r, hx => by
    simp only [RelL] at r
    obtain ⟨v, vs', F1, F2, rfl, rfl, h1, h2⟩ := r
    cases i with
    | zero =>
      simp only [List.getElem?_cons_zero, Option.some.injEq] at hx
      subst hx
      exact ⟨v, F1, rfl, h1, List.sublist_append_left _ _⟩
    | succ i =>
      simp only [List.getElem?_cons_succ] at hx
      obtain ⟨u, F3, hu, hr, hs⟩ := h2.get hx
      exact ⟨u, F3, by simpa using hu, hr, hs.trans (List.sublist_append_right _ _)⟩

/-- Cells that hold nothing of their own. -/
def flat : C → Bool
  | .inl .. => false
  | _ => true

theorem flat_of_lies {x : C} (h : lies x = true) : flat x = true := by cases x <;> simp_all [lies, flat]

theorem Rel.flat {E : Env} {h h' : List Nat → Key} {x : C} {v : Value} {F : List Nat} (hx : flat x = true) (r : Rel E h x v F) : F = [] ∧ Rel E h' x v [] := by
  cases x <;> first
    | (dsimp only [Rel] at r ⊢; first | exact ⟨r.2, r.1, rfl⟩ | exact ⟨r.1, rfl, r.2⟩ | exact ⟨r, rfl⟩)
    | (cases hx; done)

theorem RelL.flat {E : Env} : ∀ {xs : List C} {g g' : Nat → List Nat → Key} {vs : List Value} {F : List Nat}, xs.all Abs.flat = true → RelL E g xs vs F →
    F = [] ∧ RelL E g' xs vs []
  | [], _, _, _, _, _, r => by simp only [RelL] at r ⊢; simp [r]
  | x :: xs, g, g', vs, F, hx, r => by
    simp only [RelL] at r ⊢
    obtain ⟨v, vs', F1, F2, rfl, rfl, h1, h2⟩ := r
    simp only [List.all_cons, Bool.and_eq_true] at hx
    obtain ⟨rfl, h1'⟩ := h1.flat (h' := g' 0) hx.1
    obtain ⟨rfl, h2'⟩ := h2.flat (g' := fun j => g' (j + 1)) hx.2
    exact ⟨rfl, v, vs', [], [], rfl, rfl, h1', h2'⟩

theorem RelL.flat_of_nil {E : Env} : ∀ {xs : List C} {g g' : Nat → List Nat → Key} {vs : List Value}, RelL E g xs vs [] → RelL E g' xs vs []
  | [], _, _, _, r => by simp only [RelL] at r ⊢; exact r
  | x :: xs, g, g', vs, r => by
    simp only [RelL] at r ⊢
    obtain ⟨v, vs', F1, F2, rfl, hF, h1, h2⟩ := r
    obtain ⟨rfl, rfl⟩ := List.append_eq_nil_iff.1 hF.symm
    refine ⟨v, vs', [], [], rfl, rfl, ?_, h2.flat_of_nil⟩
    have hx : Abs.flat x = true := by
      cases x <;> first
        | rfl
        | (dsimp only [Rel] at h1; obtain ⟨_, _, _, _, _, _, _, _, _, h, _⟩ := h1; cases h)
    exact (h1.flat hx).2

end Go.Proofs.Ytgodaiiegcdpcaa.Abs
end
section
set_option linter.unusedVariables false
set_option linter.unusedSimpArgs false
namespace Go.Proofs.Ytgodaiiegcdpcaa.Abs

/-- The cells of a node, in the block that its key names; F: the blocks that it owns, its own first. -/
def NodeAt (E : Env) (h : List Nat → Key) (xs : List C) (F : List Nat) : Prop :=
  ∃ vs F', F = (h []).1 :: F' ∧ Blk E (h []).1 (h []).2.1 (h []).2.2 ∧ xs.length ≤ (h []).2.2 ∧ At E.w (h []).1 (h []).2.1 vs ∧
    RelL E (fun j q => h (j :: q)) xs vs F'

theorem Rel.node {E : Env} {h : List Nat → Key} {sz n : Nat} {xs : List C} {v : Value} {F : List Nat} (r : Rel E h (.inl sz n xs) v F) :
    ∃ cap, v = .slice (some ⟨(h []).1, (h []).2.1, none⟩) n cap ∧ n ≤ cap ∧ (h []).2.2 = cap * sz ∧ xs.length = n * sz ∧ NodeAt E h xs F := by
  dsimp only [Rel] at r
  obtain ⟨hl, b, o, cap, vs, F', rfl, hc, hk, rfl, hb, hat, hr⟩ := r
  refine ⟨cap, by rw [hk], hc, by rw [hk], hl, vs, F', by rw [hk], by rw [hk]; exact hb, ?_, by rw [hk]; exact hat, hr⟩
  rw [hk, hl]
  exact Nat.mul_le_mul_right _ hc

theorem Rel.of_node {E : Env} {h : List Nat → Key} {sz n cap : Nat} {xs : List C} {F : List Nat} (hc : n ≤ cap) (hk : (h []).2.2 = cap * sz) (hl : xs.length = n * sz)
    (r : NodeAt E h xs F) : Rel E h (.inl sz n xs) (.slice (some ⟨(h []).1, (h []).2.1, none⟩) n cap) F := by
  obtain ⟨vs, F', rfl, hb, hx, hat, hr⟩ := r
  dsimp only [Rel]
  refine ⟨hl, (h []).1, (h []).2.1, cap, vs, F', rfl, hc, ?_, rfl, ?_, hat, hr⟩
  · rw [← hk]
  · rw [← hk]; exact hb

theorem NodeAt.mono {E E' : Env} {h : List Nat → Key} {xs : List C} {F : List Nat} (l : E.Le E' F) (r : NodeAt E h xs F) : NodeAt E' h xs F := by
  obtain ⟨vs, F', rfl, hb, hx, hat, hr⟩ := r
  have he := l.own (h []).1 (by simp)
  exact ⟨vs, F', rfl, hb.of_block he l.prot, hx, hat.of_block he, RelL.mono xs (l.sub (by simp +contextual)) hr⟩

theorem node_walk {E : Env} : ∀ {q : List Nat} {h : List Nat → Key} {xs ys : List C} {F : List Nat}, NodeAt E h xs F → walk q xs = some ys →
    ∃ Fy, NodeAt E (fun r => h (q ++ r)) ys Fy ∧ Fy.Sublist F
  | [], h, xs, ys, F, r, hw => by
    simp only [Abs.walk, Option.some.injEq] at hw
    subst hw
    exact ⟨F, r, List.Sublist.refl _⟩
  | j :: q, h, xs, ys, F, r, hw => by
    obtain ⟨vs, F', rfl, hb, hx, hat, hr⟩ := r
    simp only [Abs.walk] at hw
    split at hw
    · rename_i sz n zs hj
      obtain ⟨v, F1, hv, hrel, hs⟩ := hr.get hj
      obtain ⟨cap, hv', hc, hk, hl, hn⟩ := hrel.node
      obtain ⟨Fy, hy, hsy⟩ := node_walk hn hw
      exact ⟨Fy, hy, (hsy.trans hs).trans (List.sublist_cons_self _ _)⟩
    · cases hw

/-- A row of cells at one index turned. -/
theorem RelL.set {E E' : Env} : ∀ {xs : List C} {g : Nat → List Nat → Key} {vs : List Value} {F : List Nat} {i : Nat} {x y : C}, RelL E g xs vs F → F.Nodup → xs[i]? = some x →
    ∃ v F1, vs[i]? = some v ∧ Rel E (g i) x v F1 ∧ F1.Sublist F ∧
      ∀ (v' : Value) (F1' : List Nat), E.Keeps E' → (∀ b ∈ F, b ∉ F1 → E'.w.heap[b]? = E.w.heap[b]?) → F1'.Sublist F1 → Rel E' (g i) y v' F1' →
        ∃ F', F'.Sublist F ∧ RelL E' g (xs.set i y) (vs.set i v') F' ∧ ∀ b ∈ F', b ∈ F1' ∨ b ∉ F1
  | [], _, _, _, _, _, _, _, _, hx => by simp at hx
  | z :: xs, g, vs, F, i, x, y, r, hn, hx => by
    simp only [RelL] at r
    obtain ⟨v, vs', F1, F2, rfl, rfl, h1, h2⟩ := r
    have hd : ∀ b ∈ F1, b ∉ F2 := fun b hb hb' => (List.nodup_append.1 hn).2.2 b hb b hb' rfl
    cases i with
    | zero =>
      simp only [List.getElem?_cons_zero, Option.some.injEq] at hx
      subst hx
      refine ⟨v, F1, rfl, h1, List.sublist_append_left _ _, fun v' F1' hk hb hs hr => ⟨F1' ++ F2, hs.append_right F2, ?_⟩⟩
      simp only [List.set_cons_zero, RelL]
      refine ⟨⟨v', vs', F1', F2, rfl, rfl, hr, RelL.mono xs ⟨hk, fun b hb' => hb b (by simp [hb']) (fun h => hd b h hb')⟩ h2⟩, fun b hb' => ?_⟩
      rcases List.mem_append.1 hb' with hb' | hb'
      · exact .inl hb'
      · exact .inr fun h => hd b h hb'
    | succ i =>
      simp only [List.getElem?_cons_succ] at hx
      obtain ⟨u, F3, hu, hru, hs3, H⟩ := h2.set (E' := E') (y := y) (List.nodup_append.1 hn).2.1 hx
      refine ⟨u, F3, by simpa using hu, hru, hs3.trans (List.sublist_append_right _ _), fun v' F1' hk hb hs hr => ?_⟩
      obtain ⟨F', hF', hr', hm⟩ := H v' F1' hk (fun b hb' hn' => hb b (by simp [hb']) hn') hs hr
      refine ⟨F1 ++ F', hF'.append_left F1, ?_⟩
      simp only [List.set_cons_succ, RelL]
      refine ⟨⟨v, vs'.set i v', F1, F', rfl, rfl, Rel.mono z ⟨hk, fun b hb' => hb b (by simp [hb']) (fun h => hd b hb' (hs3.subset h))⟩ h1, hr'⟩, fun b hb' => ?_⟩
      rcases List.mem_append.1 hb' with hb' | hb'
      · exact .inr fun h => hd b hb' (hs3.subset h)
      · exact hm b hb'

theorem set_same {vs : List Value} {i : Nat} {v : Value} (hv : vs[i]? = some v) : vs.set i v = vs := by
  have hi : i < vs.length := (List.getElem?_eq_some_iff.1 hv).1
  apply List.ext_getElem?
  intro k
  by_cases hk : i = k
  · subst hk; rw [List.getElem?_set_self hi, hv]
  · simp [List.getElem?_set_ne hk]

theorem turn_length {f : List C → Option (List C)} (hlf : ∀ a b, f a = some b → b.length = a.length) {q : List Nat} {xs xs' : List C} (h : turn f q xs = some xs') : xs'.length = xs.length := by
  cases q with
  | nil => exact hlf _ _ h
  | cons j q =>
    simp only [turn] at h
    split at h
    · split at h
      · simp only [Option.some.injEq] at h; subst h; simp
      · cases h
    · cases h

/-- A node within a node turned in its place: the block of the one that is turned may be written, all others stay. -/
theorem node_turn {E E' : Env} {f : List C → Option (List C)} (hlf : ∀ a b, f a = some b → b.length = a.length) : ∀ {q : List Nat} {h : List Nat → Key} {xs xs' : List C} {F : List Nat}, NodeAt E h xs F → F.Nodup → turn f q xs = some xs' →
    ∃ ys ys' Fy, walk q xs = some ys ∧ f ys = some ys' ∧ NodeAt E (fun r => h (q ++ r)) ys Fy ∧ Fy.Sublist F ∧
      ∀ Fy', E.Keeps E' → (∀ b ∈ F, b ≠ (h q).1 → E'.w.heap[b]? = E.w.heap[b]?) → Fy'.Sublist Fy → NodeAt E' (fun r => h (q ++ r)) ys' Fy' →
        ∃ F', F'.Sublist F ∧ NodeAt E' h xs' F' ∧ ∀ b ∈ F', b ∈ Fy' ∨ b ∉ Fy
  | [], h, xs, xs', F, r, hn, ht => ⟨xs, xs', F, rfl, ht, r, List.Sublist.refl _, fun Fy' _ _ hs hr => ⟨Fy', hs, hr, fun b hb => .inl hb⟩⟩
  | j :: q, h, xs, xs', F, r, hn, ht => by
    obtain ⟨vs, F', rfl, hb, hx, hat, hr⟩ := r
    simp only [Abs.turn] at ht
    split at ht
    · rename_i sz n zs hj
      split at ht
      · rename_i zs' hz
        simp only [Option.some.injEq] at ht
        subst ht
        have hn' : F'.Nodup := (List.nodup_cons.1 hn).2
        have hnot : (h []).1 ∉ F' := (List.nodup_cons.1 hn).1
        obtain ⟨v, F1, hv, hrel, hs, H⟩ := hr.set (E' := E') (y := .inl sz n zs') hn' hj
        obtain ⟨cap, hv', hc, hk, hl, hnode⟩ := hrel.node
        obtain ⟨ys, ys', Fy, hw, hf, hny, hsy, K⟩ := node_turn (E' := E') hlf hnode (hs.nodup hn') hz
        refine ⟨ys, ys', Fy, by simp only [Abs.walk, hj]; exact hw, hf, hny, (hsy.trans hs).trans (List.sublist_cons_self _ _), fun Fy' hke hbl hsub hnew => ?_⟩
        have hq : (h (j :: q)).1 ∈ Fy := by
          obtain ⟨_, _, e, _⟩ := hny
          rw [e]; simp
        have hqF : (h (j :: q)).1 ∈ F' := hs.subset (hsy.subset hq)
        obtain ⟨F1', hF1', hn1, hm1⟩ := K Fy' hke (fun b hb hne => hbl b (by simp [hs.subset hb]) hne) hsub hnew
        have hlen : zs'.length = n * sz := by
          rw [turn_length hlf hz, hl]
        obtain ⟨F2, hF2, hr2, hm2⟩ := H v F1' hke (fun b hb hne => hbl b (by simp [hb]) (fun e => hne (by rw [e]; exact hsy.subset hq))) hF1' (by rw [hv']; exact Rel.of_node hc hk hlen hn1)
        have he : E'.w.heap[(h []).1]? = E.w.heap[(h []).1]? := hbl _ (by simp) (fun e => hnot (by rw [e]; exact hqF))
        refine ⟨(h []).1 :: F2, hF2.cons_cons _, ⟨vs, F2, rfl, hb.of_block he hke.prot, by simpa using hx, hat.of_block he, ?_⟩, fun b hb' => ?_⟩
        · rw [set_same hv] at hr2
          exact hr2
        · rcases List.mem_cons.1 hb' with rfl | hb'
          · exact .inr fun h' => hnot (hs.subset (hsy.subset h'))
          · rcases hm2 b hb' with h' | h'
            · exact hm1 b h'
            · exact .inr fun h'' => h' (hsy.subset h'')
      · cases ht
    · cases ht

end Go.Proofs.Ytgodaiiegcdpcaa.Abs
end
section
set_option linter.unusedVariables false
set_option linter.unusedSimpArgs false
namespace Go.Proofs.Ytgodaiiegcdpcaa.Abs

def RelU (E : Env) (g : Nat → List Nat → Key) : V → Value → List Nat → Prop
  | .c x, v, F => Rel E (g 0) x v F
  | .agg xs, v, F => ∃ vs : List Value, v = .agg vs.toArray ∧ RelL E g xs vs F
  | .bx _, _, _ => False
  | .tup _, _, _ => False

def RelUs (E : Env) : List V → List Value → Prop
  | [], vs => vs = []
  | u :: us, vs => ∃ v vs', vs = v :: vs' ∧ RelU E g0 u v [] ∧ RelUs E us vs'

def RelV (E : Env) : V → Value → Prop
  | .tup us, v => ∃ vs : List Value, v = .tuple vs.toArray ∧ RelUs E us vs
  | .c x, v => Rel E (g0 0) x v []
  | .agg xs, v => RelU E g0 (.agg xs) v []
  | .bx _, _ => False

theorem RelV.of_u {E : Env} {u : V} {v : Value} (h : RelU E g0 u v []) : RelV E u v := by
  cases u with
  | c x => exact h
  | agg xs => exact h
  | bx xs => exact h.elim
  | tup us => exact h.elim

def tySz (P : Program) (t : TypeId) (s : Nat) : Bool := (P.info? t).map (·.size) == some s
def tyAg (P : Program) (t : TypeId) (ag : Bool) : Bool :=
  match P.underlying t with
  | some (.struct _) | some (.array _ _) => ag
  | some _ => !ag
  | none => false
def tySl (P : Program) (t : TypeId) (sz : Nat) : Bool :=
  match P.underlying t with
  | some (.slice e) => tySz P e sz
  | _ => false

theorem tySz_info {P : Program} {t : TypeId} {s : Nat} (h : tySz P t s = true) : ∃ i, P.info? t = some i ∧ i.size = s := by
  unfold tySz at h
  cases hi : P.info? t with
  | none => simp [hi] at h
  | some i => exact ⟨i, rfl, by simpa [hi] using h⟩

def constOk : Value → C → Bool
  | .int k n, .int k' n' => k == k' && n == n'
  | .bool b, .bool b' => b == b'
  | .string s, .str s' => decide (s = s')
  | .slice none 0 0, .nils => true
  | .pointer none, .nilp => true
  | _, _ => false

def opdOk : Operand → Opd → Bool
  | .tmp t, .t t' => t == t'
  | .const v, .k c => constOk v c
  | _, _ => false

def TR (E : Env) (T : Nat → V) (a : Act) : Prop := ∀ t, RelV E (T t) (a.tmps.getD t undef)

theorem opdOk_rel {E : Env} {T : Nat → V} {a : Act} {x : Operand} {y : Opd} (h : opdOk x y = true) (hT : TR E T a) : RelV E (ev T y) (a.eval x) := by
  cases x <;> cases y <;> simp only [opdOk, Bool.false_eq_true] at h
  · rename_i t t'
    have : t = t' := by simpa using h
    subst this
    exact hT t
  · rename_i v c
    cases v <;> cases c <;> simp only [constOk, Bool.false_eq_true] at h
    all_goals simp only [ev, Act.eval, RelV, Rel]
    · simpa using h
    · simpa using h
    · simpa using h
    · rename_i a0; cases a0 <;> simp_all
    · rename_i a0 n0 c0
      split at h <;> simp_all

def optOk : Option Operand → Option Opd → Bool
  | none, none => true
  | some x, some y => opdOk x y
  | _, _ => false

def partsOk (f : Nat → Option (Nat × Nat)) : List (Nat × Operand) → List (Nat × Nat × Opd) → Bool
  | [], [] => true
  | (i, x) :: ps, (off, s, y) :: qs => f i == some (off, s) && opdOk x y && partsOk f ps qs
  | _, _ => false

/-- The operation yields a value in whatever world. -/
def Val (P : Program) (o : Oper) (a : Act) (v : Value) : Prop := ∀ w, (execOp a.eval o).run P w = .ok (.value v) w

section
variable {P : Program} {E : Env} {a : Act} {T : Nat → V} {o : Oper} {v : V}

end

/-- The value of a cell that is a number, a truth or a string. -/
def conc : C → Value
  | .int k n => .int k n
  | .bool b => .bool b
  | .str s => .string s
  | _ => .nilFunc

def scal : C → Bool
  | .int .. | .bool _ | .str _ => true
  | _ => false

section
variable {P : Program} {E : Env} {a : Act} {T : Nat → V} {o : Oper} {v : V}

theorem q_mov {x : Operand} {y : Opd} (ho : o.op = .move x ∨ o.op = .assign x) (h : opdOk x y = true) (hT : TR E T a) (hq : quiet T (.mov y) = some v) :
    ∃ v', Val P o a v' ∧ RelV E v v' := by
  simp only [quiet, Option.some.injEq] at hq
  subst hq
  refine ⟨a.eval x, fun w => ?_, opdOk_rel h hT⟩
  rcases ho with ho | ho <;> simp [execOp, ho]

theorem q_pick {c x y : Operand} {c' x' y' : Opd} (ho : o.op = .pick c x y) (hc : opdOk c c' = true) (hx : opdOk x x' = true) (hy : opdOk y y' = true)
    (hT : TR E T a) (hq : quiet T (.pick c' x' y') = some v) : ∃ v', Val P o a v' ∧ RelV E v v' := by
  simp only [quiet] at hq
  split at hq
  · rename_i t ht
    simp only [Option.some.injEq] at hq
    subst hq
    have h1 := opdOk_rel hc hT
    rw [ht] at h1
    simp only [RelV, Rel] at h1
    refine ⟨if t then a.eval x else a.eval y, fun w => ?_, ?_⟩
    · simp [execOp, ho, h1.1, asBool]
    · cases t
      · exact opdOk_rel hy hT
      · exact opdOk_rel hx hT
  · cases hq

theorem run_intBin {op : BinOp} {k : IntKind} {x y : Int} {c : C} (w : World) (h : intBin op k x y = some c) (t : TypeId) :
    (binOp op t (.int k x) (.int k y)).run P w = .ok (conc c) w := by
  cases op <;> simp only [intBin, Option.some.injEq] at h <;> first
    | (subst h; simp [binOp, Op.intArith, Op.intBits, Op.intCmp, conc]; done)
    | (split at h; (cases h); (rename_i hy; simp only [Option.some.injEq] at h; subst h; simp [binOp, Op.intDiv, hy, conc]; done))
    | (cases h; done)

theorem run_shiftI {op : BinOp} {k k' : IntKind} {x y : Int} {c : C} (w : World) (h : shiftI op k x y = some c) (t : TypeId) :
    (binOp op t (.int k x) (.int k' y)).run P w = .ok (conc c) w := by
  unfold shiftI at h
  split at h
  · cases h
  · rename_i hy
    cases op <;> simp only [Option.some.injEq] at h <;> first
      | (subst h; simp [binOp, Op.shift, hy, conc]; done)
      | (cases h; done)

theorem run_strBin {op : BinOp} {x y : ByteArray} {c : C} (w : World) (h : strBin op x y = some c) (t : TypeId) :
    (binOp op t (.string x) (.string y)).run P w = .ok (conc c) w := by
  cases op
  case add =>
    simp only [strBin] at h
    split at h
    · rename_i hs
      simp only [Option.some.injEq] at h
      subst h
      have hs' : ¬ (((x.size + y.size : Nat) : Int) > IntKind.i64.max) := by
        have : IntKind.i64.max = 9223372036854775807 := by decide
        rw [this]; omega
      simp only [binOp, Op.stringOp, conc, if_neg hs']
      rfl
    · cases h
  all_goals simp only [strBin, Option.some.injEq] at h
  all_goals first
    | (subst h; simp [binOp, Op.stringOp, conc]; done)
    | (cases h; done)

theorem conc_rel {c : C} (h : scal c = true) : Rel E (g0 0) c (conc c) [] := by
  cases c <;> first
    | (cases h; done)
    | (dsimp only [Rel, conc]; exact ⟨rfl, rfl⟩)

theorem rel_scal {c : C} {v : Value} (h : scal c = true) (r : Rel E (g0 0) c v []) : v = conc c := by
  cases c <;> first
    | (cases h; done)
    | (dsimp only [Rel, conc] at r ⊢; exact r.1)

theorem run_guard_scal (op : BinOp) (t : TypeId) (x y : Operand) {a b : C} (ha : scal a = true) (hb : scal b = true) (w : World) : (eqGuard op t x y (conc a) (conc b)).run P w = .ok () w := by
  cases a <;> first
    | (cases ha; done)
    | (cases b <;> first
        | (cases hb; done)
        | (cases op <;> simp [eqGuard, conc]))

/-- Like 'run_guard_scal', for 'binOp' itself behind it. -/
theorem q_bin {op : BinOp} {xt yt : TypeId} {x y : Operand} {x' y' : Opd} (ho : o.op = .binOp op xt x y yt) (hx : opdOk x x' = true) (hy : opdOk y y' = true)
    (hT : TR E T a) (hq : quiet T (.bin op x' y') = some v) : ∃ v', Val P o a v' ∧ RelV E v v' := by
  have h1 := opdOk_rel hx hT
  have h2 := opdOk_rel hy hT
  simp only [quiet] at hq
  split at hq
  · rename_i p q hp hq'
    rw [hp] at h1
    rw [hq'] at h2
    simp only [RelV] at h1 h2
    cases hb : binC op p q with
    | none => rw [hb] at hq; cases hq
    | some c =>
      rw [hb] at hq
      simp only [Option.map_some, Option.some.injEq] at hq
      subst hq
      have key : scal p = true ∧ scal q = true ∧ scal c = true ∧ ∀ w, (binOp op xt (conc p) (conc q)).run P w = .ok (conc c) w := by
        unfold binC at hb
        split at hb
        · refine ⟨rfl, rfl, ?_, fun w => run_shiftI w hb xt⟩
          unfold shiftI at hb; split at hb <;> simp at hb <;> subst hb <;> rfl
        · refine ⟨rfl, rfl, ?_, fun w => run_shiftI w hb xt⟩
          unfold shiftI at hb; split at hb <;> simp at hb <;> subst hb <;> rfl
        · split at hb
          · rename_i hk
            subst hk
            refine ⟨rfl, rfl, ?_, fun w => run_intBin w hb xt⟩
            unfold intBin at hb
            split at hb <;> first
              | (simp only [Option.some.injEq] at hb; subst hb; rfl)
              | (split at hb; (cases hb); (simp only [Option.some.injEq] at hb; subst hb; rfl))
              | (cases hb; done)
          · cases hb
        · refine ⟨rfl, rfl, ?_, fun w => run_strBin w hb xt⟩
          unfold strBin at hb
          split at hb <;> first
            | (simp only [Option.some.injEq] at hb; subst hb; rfl)
            | (split at hb; (simp only [Option.some.injEq] at hb; subst hb; rfl); (cases hb))
            | (cases hb; done)
        · cases hb
      obtain ⟨kp, kq, kc, kr⟩ := key
      have e1 := rel_scal kp h1
      have e2 := rel_scal kq h2
      refine ⟨conc c, fun w => ?_, conc_rel kc⟩
      simp only [execOp, ho, e1, e2, Sem.run_bind, run_guard_scal _ _ _ _ kp kq, Result.andThen_ok, kr]
      rfl
  · cases hq

theorem q_eqb {op : BinOp} {ne : Bool} {xt yt : TypeId} {x y : Operand} {x' y' : Opd} (ho : o.op = .binOp op xt x y yt) (hop : op = if ne then .neq else .eql)
    (ht : P.underlying xt = some .bool) (hx : opdOk x x' = true) (hy : opdOk y y' = true)
    (hT : TR E T a) (hq : quiet T (.eqb ne x' y') = some v) : ∃ v', Val P o a v' ∧ RelV E v v' := by
  have h1 := opdOk_rel hx hT
  have h2 := opdOk_rel hy hT
  simp only [quiet] at hq
  split at hq
  · rename_i p q hp hq'
    rw [hp] at h1
    rw [hq'] at h2
    simp only [RelV, Rel] at h1 h2
    simp only [Option.some.injEq] at hq
    subst hq
    refine ⟨.bool ((p == q) != ne), fun w => ?_, by simp only [RelV, Rel, and_true]⟩
    have hg := run_guard_scal (P := P) op xt x y (a := .bool p) (b := .bool q) rfl rfl w
    simp only [conc] at hg
    have he : (Op.equalIn 10000 xt (.bool p) (.bool q)).run P w = .ok (p == q) w := run_equalIn_bool' (P := P) w 9999 xt p q ht
    cases ne
    · simp only [Bool.false_eq_true, if_false] at hop
      subst hop
      simp [execOp, ho, h1.1, h2.1, hg, binOp, Op.equal, Op.maxDepth, he]
    · simp only [if_true] at hop
      subst hop
      simp [execOp, ho, h1.1, h2.1, hg, binOp, Op.equal, Op.maxDepth, he]
  · cases hq

theorem q_un {op : UnOp} {xt : TypeId} {x : Operand} {x' : Opd} (ho : o.op = .unOp op xt x) (hx : opdOk x x' = true)
    (hT : TR E T a) (hq : quiet T (.un op x') = some v) : ∃ v', Val P o a v' ∧ RelV E v v' := by
  have h1 := opdOk_rel hx hT
  simp only [quiet] at hq
  split at hq
  · rename_i p hp
    rw [hp] at h1
    simp only [RelV] at h1
    cases hb : unC op p with
    | none => rw [hb] at hq; cases hq
    | some c =>
      rw [hb] at hq
      simp only [Option.map_some, Option.some.injEq] at hq
      subst hq
      unfold unC at hb
      split at hb
      · simp only [Option.some.injEq] at hb
        subst hb
        simp only [Rel] at h1
        exact ⟨_, fun w => by simp [execOp, ho, h1.1, Op.unary, Op.intArith]; rfl, by simp [RelV, Rel]⟩
      · simp only [Option.some.injEq] at hb
        subst hb
        simp only [Rel] at h1
        exact ⟨_, fun w => by simp [execOp, ho, h1.1, Op.unary]; rfl, by simp [RelV, Rel]⟩
      · cases hb
  · cases hq

theorem q_fa {st : TypeId} {x : Operand} {x' : Opd} {f off : Nat} {fs : Array Field} {fd : Field} {i : TypeInfo} (ho : o.op = .fieldAddr st x f) (hs : P.underlying st = some (.struct fs))
    (hf : fs[f]? = some fd) (hoff : fd.offset = off) (hi : P.info? fd.type = some i) (hz : i.size ≠ 0) (hx : opdOk x x' = true)
    (hT : TR E T a) (hq : quiet T (.fa x' off) = some v) : ∃ v', Val P o a v' ∧ RelV E v v' := by
  have h1 := opdOk_rel hx hT
  have key : ∀ b k w, (Instr.fieldAt st (.pointer (some ⟨b, k, none⟩)) f).run P w = .ok (.pointer (some ⟨b, k + off, none⟩)) w := by
    intro b k w
    simp [Instr.fieldAt, run_underlying hs, hf, Instr.sureAddr, fieldPlace, sizeOf, typeInfo, hi, hz, Addr.add_lit, hoff]
  simp only [quiet] at hq
  split at hq
  · rename_i e p k hp
    rw [hp] at h1
    simp only [RelV, Rel] at h1
    simp only [Option.some.injEq] at hq
    subst hq
    refine ⟨.pointer (some ⟨(E.G e p).1, (E.G e p).2.1 + (k + off), none⟩), fun w => ?_, ?_⟩
    · simp [execOp, ho, h1.2.2, key, Nat.add_assoc]
    · dsimp only [RelV, Rel]
      exact ⟨rfl, h1.2.1, rfl⟩
  · rename_i fl xs k hp
    rw [hp] at h1
    simp only [RelV, Rel] at h1
    simp only [Option.some.injEq] at hq
    subst hq
    obtain ⟨_, b, k0, vs, hv, hz', hat, hr⟩ := h1
    refine ⟨.pointer (some ⟨b, k0 + (k + off), none⟩), fun w => ?_, ?_⟩
    · simp [execOp, ho, hv, key, Nat.add_assoc]
    · dsimp only [RelV, Rel]
      exact ⟨rfl, b, k0, vs, rfl, hz', hat, hr⟩
  · cases hq

theorem cut_some {off s : Nat} {xs ys : List C} (h : cut off s xs = some ys) : off + s ≤ xs.length ∧ ys = (xs.drop off).take s := by
  unfold cut at h
  split at h
  · exact ⟨‹_›, by simpa using h.symm⟩
  · cases h

theorem cut_split {off s : Nat} {xs ys : List C} (h : cut off s xs = some ys) : xs = xs.take off ++ (ys ++ xs.drop (off + s)) := by
  obtain ⟨h1, rfl⟩ := cut_some h
  have : xs.drop (off + s) = (xs.drop off).drop s := by rw [List.drop_drop]
  rw [this, List.take_append_drop, List.take_append_drop]

theorem RelL.cut {off s : Nat} {xs ys : List C} {g : Nat → List Nat → Key} {vs : List Value} {F : List Nat} (r : RelL E g xs vs F) (h : Abs.cut off s xs = some ys) :
    ∃ vs1 vs2 vs3 F1 F2 F3, vs = vs1 ++ (vs2 ++ vs3) ∧ vs1.length = off ∧ F = F1 ++ (F2 ++ F3) ∧ RelL E g (xs.take off) vs1 F1 ∧ RelL E (fun j => g (off + j)) ys vs2 F2 ∧
      RelL E (fun j => g (off + s + j)) (xs.drop (off + s)) vs3 F3 := by
  have hs := cut_split h
  obtain ⟨h1, h2⟩ := cut_some h
  have hl : (xs.take off).length = off := by simp; omega
  have hy : ys.length = s := by rw [h2]; simp; omega
  rw [hs] at r
  obtain ⟨vs1, vs', F1, F', rfl, rfl, r1, r'⟩ := r.append_inv
  obtain ⟨vs2, vs3, F2, F3, rfl, rfl, r2, r3⟩ := r'.append_inv
  rw [hl] at r2 r3
  rw [hy] at r3
  refine ⟨vs1, vs2, vs3, F1, F2, F3, rfl, by rw [r1.length, hl], rfl, ?_, r2, ?_⟩
  · exact r1
  · simpa only [Nat.add_assoc] using r3

theorem At.mid {w : World} {b o : Nat} {vs1 vs2 vs3 : List Value} (h : At w b o (vs1 ++ (vs2 ++ vs3))) : At w b (o + vs1.length) vs2 := fun i v hv => by
  have := h (vs1.length + i) v (by rw [List.getElem?_append_right (by omega), Nat.add_sub_cancel_left, List.getElem?_append_left (List.getElem?_eq_some_iff.1 hv).1]; exact hv)
  rw [← Nat.add_assoc] at this
  exact this

theorem RelL.split1 {g : Nat → List Nat → Key} {x : C} {vs : List Value} {F : List Nat} (r : RelL E g [x] vs F) : ∃ v, vs = [v] ∧ Rel E (g 0) x v F := by
  simp only [RelL] at r
  obtain ⟨v, vs', F1, F2, rfl, rfl, h1, rfl, rfl⟩ := r
  exact ⟨v, rfl, by simpa using h1⟩

theorem mkV_rel {ag : Bool} {ys : List C} {vs : List Value} (h : mkV ag ys = some v) (r : RelL E g0 ys vs []) :
    (ag = true ∧ RelV E v (.agg vs.toArray)) ∨ (ag = false ∧ ∃ u, vs = [u] ∧ RelV E v u) := by
  unfold mkV at h
  split at h
  · rename_i ha
    simp only [Option.some.injEq] at h
    subst h
    exact .inl ⟨ha, vs, rfl, r⟩
  · rename_i ha
    split at h
    · simp only [Option.some.injEq] at h
      subst h
      obtain ⟨u, rfl, hu⟩ := r.split1
      exact .inr ⟨by simpa using ha, u, rfl, hu⟩
    · cases h

theorem tyAg_run {t : TypeId} {ag : Bool} (h : tyAg P t ag = true) (w : World) : (isAgg t).run P w = .ok ag w := by
  unfold tyAg at h
  cases hu : P.underlying t with
  | none => simp [hu] at h
  | some d =>
    rw [hu] at h
    cases d <;> simp at h <;> subst h <;> simp [isAgg, run_underlying hu]

theorem q_fld {xt : TypeId} {x : Operand} {x' : Opd} {f off s : Nat} {ag : Bool} {fs : Array Field} {fd : Field} (ho : o.op = .field xt x f) (hs : P.underlying xt = some (.struct fs))
    (hf : fs[f]? = some fd) (hoff : fd.offset = off) (hi : tySz P fd.type s = true) (hag : tyAg P fd.type ag = true) (hx : opdOk x x' = true)
    (hT : TR E T a) (hq : quiet T (.fld x' off s ag) = some v) : ∃ v', Val P o a v' ∧ RelV E v v' := by
  have h1 := opdOk_rel hx hT
  obtain ⟨i, hi, his⟩ := tySz_info hi
  simp only [quiet] at hq
  split at hq
  · rename_i xs hp
    rw [hp] at h1
    simp only [RelV, RelU] at h1
    obtain ⟨vs, hv, hr⟩ := h1
    split at hq
    · rename_i ys hy
      obtain ⟨vs1, vs2, vs3, F1, F2, F3, rfl, hl, hF, _, hr2, _⟩ := hr.cut hy
      obtain ⟨rfl, hF'⟩ := List.append_eq_nil_iff.1 hF.symm
      obtain ⟨rfl, rfl⟩ := List.append_eq_nil_iff.1 hF'
      have hlen : vs2.length = s := by rw [hr2.length, (cut_some hy).2]; have := (cut_some hy).1; simp; omega
      rcases mkV_rel hq hr2.flat_of_nil with ⟨rfl, hv2⟩ | ⟨rfl, u, rfl, hu⟩
      · refine ⟨_, fun w => ?_, hv2⟩
        have he : (vs1 ++ (vs2 ++ vs3)).toArray.extract off (off + s) = vs2.toArray := by
          apply Array.toList_inj.1
          simp [← hl, ← hlen]
        simp [execOp, ho, hv, Instr.field, run_underlying hs, hf, asAgg, part, tyAg_run hag, sizeOf, typeInfo, hi, his, hoff]
        simpa using he
      · refine ⟨u, fun w => ?_, hu⟩
        have he : (vs1 ++ (u :: vs3))[off]? = some u := by
          rw [List.getElem?_append_right (by omega)]; simp [hl]
        simp [execOp, ho, hv, Instr.field, run_underlying hs, hf, asAgg, part, tyAg_run hag, hoff, he]
    · cases hq
  · cases hq

end
end Go.Proofs.Ytgodaiiegcdpcaa.Abs
end
section
set_option linter.unusedVariables false
set_option linter.unusedSimpArgs false
namespace Go.Proofs.Ytgodaiiegcdpcaa.Abs
section
variable {P : Program} {E : Env} {a : Act} {T : Nat → V} {o : Oper} {v : V}

theorem tySl_elem {t : TypeId} {sz : Nat} (h : tySl P t sz = true) : ∃ e i, P.underlying t = some (.slice e) ∧ P.info? e = some i ∧ i.size = sz := by
  unfold tySl at h
  split at h
  · rename_i e he
    obtain ⟨i, hi, hs⟩ := tySz_info h
    exact ⟨e, i, he, hi, hs⟩
  · cases h

theorem q_ix {t : TypeId} {x i : Operand} {x' i' : Opd} {sz : Nat} (ho : o.op = .indexAddr t x i) (ht : tySl P t sz = true) (hz : sz ≠ 0) (hx : opdOk x x' = true) (hi : opdOk i i' = true)
    (hT : TR E T a) (hq : quiet T (.ix x' i' sz) = some v) : ∃ v', Val P o a v' ∧ RelV E v v' := by
  have h1 := opdOk_rel hx hT
  have h2 := opdOk_rel hi hT
  obtain ⟨e, inf, hu, hinf, hsz⟩ := tySl_elem ht
  have key : ∀ b k (n cap : Nat) (ik : IntKind) (j : Int) w, 0 ≤ j → j < n → (Instr.indexAt t (.slice (some ⟨b, k, none⟩) n cap) (.int ik j)).run P w = .ok (.pointer (some ⟨b, k + j.toNat * sz, none⟩)) w := by
    intro b k n cap ik j w h0 h1
    simp [Instr.indexAt, asIntOf, run_underlying hu, h0, h1, sizeOf, typeInfo, hinf, hsz, Addr.add_lit]
  simp only [quiet] at hq
  split at hq
  · rename_i e p sz' lo n ik j hp hj
    rw [hp] at h1
    rw [hj] at h2
    simp only [RelV, Rel] at h1 h2
    split at hq
    · rename_i hc
      obtain ⟨rfl, h0, hn⟩ := hc
      simp only [Option.some.injEq] at hq
      subst hq
      obtain ⟨_, hal, k, cap, hv, hnc, hk, hcap⟩ := h1
      have hcz : cap * sz' ≠ 0 := Nat.mul_ne_zero (by omega) hz
      refine ⟨.pointer (some ⟨(E.G e p).1, (E.G e p).2.1 + (lo + j.toNat * sz'), none⟩), fun w => ?_, ?_⟩
      · rcases hk with hk | hk
        · exact absurd hk hcz
        · simp [execOp, ho, hv, h2.1, key _ _ _ _ _ _ _ h0 hn, hk, Nat.add_assoc]
      · dsimp only [RelV, Rel]
        exact ⟨rfl, hal, rfl⟩
    · cases hq
  · rename_i fl sz' n xs ik j hp hj
    rw [hp] at h1
    rw [hj] at h2
    simp only [RelV, Rel] at h1 h2
    split at hq
    · rename_i hc
      obtain ⟨rfl, h0, hn⟩ := hc
      simp only [Option.some.injEq] at hq
      subst hq
      obtain ⟨_, hl, _, ad, cap, hv, hnc, hxs⟩ := h1
      rcases hxs with rfl | ⟨b, k, vs, rfl, hzn, hat, hr⟩
      · exfalso
        have : 0 < n * sz' := Nat.mul_pos (by omega) (Nat.pos_of_ne_zero hz)
        simp at hl; omega
      · refine ⟨.pointer (some ⟨b, k + j.toNat * sz', none⟩), fun w => ?_, ?_⟩
        · simp [execOp, ho, hv, h2.1, key _ _ _ _ _ _ _ h0 hn]
        · dsimp only [RelV, Rel]
          exact ⟨rfl, b, k, vs, rfl, hzn, hat, hr⟩
    · cases hq
  · cases hq

theorem q_ixs {t : TypeId} {x i : Operand} {x' i' : Opd} (ho : o.op = .index t x i) (ht : P.underlying t = some .string) (hx : opdOk x x' = true) (hi : opdOk i i' = true)
    (hT : TR E T a) (hq : quiet T (.ixs x' i') = some v) : ∃ v', Val P o a v' ∧ RelV E v v' := by
  have h1 := opdOk_rel hx hT
  have h2 := opdOk_rel hi hT
  simp only [quiet] at hq
  split at hq
  · rename_i s ik j hp hj
    rw [hp] at h1
    rw [hj] at h2
    simp only [RelV, Rel] at h1 h2
    split at hq
    · rename_i hc
      simp only [Option.some.injEq] at hq
      subst hq
      refine ⟨_, fun w => ?_, by dsimp only [RelV, Rel]; exact ⟨rfl, rfl⟩⟩
      simp [execOp, ho, h1.1, h2.1, Instr.index, asIntOf, run_underlying ht, hc.1, hc.2]
    · cases hq
  · cases hq

theorem q_len {x : Operand} {x' : Opd} {t e : TypeId} (ho : o.op = .call { callee := .builtin .len, args := #[x], argTypes := #[t] })
    (ht : P.underlying t = some (.slice e)) (hx : opdOk x x' = true)
    (hT : TR E T a) (hq : quiet T (.len x') = some v) : ∃ v', Val P o a v' ∧ RelV E v v' := by
  have h1 := opdOk_rel hx hT
  have key : ∀ (b : Option Addr) (n cap : Nat) w, (Builtin.len_ #[t] o.type #[.slice b n cap]).run P w = .ok (.int .i64 n) w := by
    intro b n cap w
    simp [Builtin.len_, run_underlying ht, goInt]
  simp only [quiet] at hq
  split at hq
  · rename_i e p sz lo n hp
    rw [hp] at h1
    simp only [RelV, Rel] at h1
    simp only [Option.some.injEq] at hq
    subst hq
    obtain ⟨_, hal, k, cap, hv, _⟩ := h1
    refine ⟨.int .i64 n, fun w => ?_, by dsimp only [RelV, Rel]; exact ⟨rfl, rfl⟩⟩
    simp [execOp, ho, resolve, invoke, builtin, hv, key]
  · rename_i fl sz n xs hp
    rw [hp] at h1
    simp only [RelV, Rel] at h1
    simp only [Option.some.injEq] at hq
    subst hq
    obtain ⟨_, hl, _, ad, cap, hv, _⟩ := h1
    refine ⟨.int .i64 n, fun w => ?_, by dsimp only [RelV, Rel]; exact ⟨rfl, rfl⟩⟩
    simp [execOp, ho, resolve, invoke, builtin, hv, key]
  · rename_i hp
    rw [hp] at h1
    simp only [RelV, Rel] at h1
    simp only [Option.some.injEq] at hq
    subst hq
    refine ⟨.int .i64 0, fun w => ?_, by dsimp only [RelV, Rel]; exact ⟨rfl, rfl⟩⟩
    have := key none 0 0 w
    simp [execOp, ho, resolve, invoke, builtin, h1.1, this]
  · cases hq

theorem q_lens {x : Operand} {x' : Opd} {t : TypeId} (ho : o.op = .call { callee := .builtin .len, args := #[x], argTypes := #[t] })
    (ht : P.underlying t = some .string) (hx : opdOk x x' = true)
    (hT : TR E T a) (hq : quiet T (.lens x') = some v) : ∃ v', Val P o a v' ∧ RelV E v v' := by
  have h1 := opdOk_rel hx hT
  simp only [quiet] at hq
  split at hq
  · rename_i s hp
    rw [hp] at h1
    simp only [RelV, Rel] at h1
    simp only [Option.some.injEq] at hq
    subst hq
    refine ⟨.int .i64 s.size, fun w => ?_, by dsimp only [RelV, Rel]; exact ⟨rfl, rfl⟩⟩
    simp [execOp, ho, resolve, invoke, builtin, h1.1, Builtin.len_, run_underlying ht, goInt]
  · cases hq

/-- A bound of a cut. -/
theorem bound_run {lo hi : Int} {x : V} {k : Nat} {xv : Value} (hlo : lo = 0) (h : boundC lo hi x = some k) (hr : RelV E x xv) (code : BoundsCode) {y : Nat} (hy : hi ≤ y) (w : World) :
    (Instr.sliceBound xv y code).run P w = .ok k w ∧ (k : Int) ≤ hi := by
  subst hlo
  unfold boundC at h
  split at h
  · rename_i ik i
    split at h
    · rename_i hc
      simp only [Option.some.injEq] at h
      subst h
      simp only [RelV, Rel] at hr
      obtain ⟨rfl, _⟩ := hr
      refine ⟨?_, by omega⟩
      simp [Instr.sliceBound, asIntOf, hc.1, show i ≤ (y : Int) by omega]
    · cases h
  · cases h

theorem bounds_run {T : Nat → V} (hT : TR E T a) {n cap h l : Nat} {lo hi : Option Operand} {lo' hi' : Option Opd} (hlo : optOk lo lo' = true) (hhi : optOk hi hi' = true)
    (h1 : boundO n n (hi'.map (ev T)) = some h) (h2 : boundO 0 h (lo'.map (ev T)) = some l) (hc : n ≤ cap) (b : Bool) (w : World) :
    (Instr.sliceBounds b n cap (lo.map a.eval) (hi.map a.eval) none).run P w = .ok (l, h, cap) w ∧ l ≤ h ∧ h ≤ n := by
  cases hi with
  | none =>
    cases hi' with
    | some _ => simp [optOk] at hhi
    | none =>
      simp only [Option.map_none, boundO, Option.some.injEq] at h1
      subst h1
      cases lo with
      | none =>
        cases lo' with
        | some _ => simp [optOk] at hlo
        | none =>
          simp only [Option.map_none, boundO, Option.some.injEq] at h2
          subst h2
          exact ⟨by simp [Instr.sliceBounds], Nat.zero_le _, Nat.le_refl _⟩
      | some x =>
        cases lo' with
        | none => simp [optOk] at hlo
        | some y =>
          simp only [optOk] at hlo
          simp only [Option.map_some, boundO] at h2
          obtain ⟨hr, hle⟩ := bound_run (P := P) rfl h2 (opdOk_rel hlo hT) .sliceB (y := n) (Int.le_refl _) w
          exact ⟨by simp [Instr.sliceBounds, hr], by omega, Nat.le_refl _⟩
  | some z =>
    cases hi' with
    | none => simp [optOk] at hhi
    | some z' =>
      simp only [optOk] at hhi
      simp only [Option.map_some, boundO] at h1
      have hz := fun code => bound_run (P := P) rfl h1 (opdOk_rel hhi hT) code (y := cap) (by omega) w
      have hle := (hz .sliceAcap).2
      cases lo with
      | none =>
        cases lo' with
        | some _ => simp [optOk] at hlo
        | none =>
          simp only [Option.map_none, boundO, Option.some.injEq] at h2
          subst h2
          exact ⟨by cases b <;> simp [Instr.sliceBounds, (hz _).1], Nat.zero_le _, by omega⟩
      | some x =>
        cases lo' with
        | none => simp [optOk] at hlo
        | some y =>
          simp only [optOk] at hlo
          simp only [Option.map_some, boundO] at h2
          obtain ⟨hr, hle2⟩ := bound_run (P := P) rfl h2 (opdOk_rel hlo hT) .sliceB (y := h) (Int.le_refl _) w
          exact ⟨by cases b <;> simp [Instr.sliceBounds, (hz _).1, hr], by omega, by omega⟩

end
end Go.Proofs.Ytgodaiiegcdpcaa.Abs
end
section
set_option linter.unusedVariables false
set_option linter.unusedSimpArgs false
namespace Go.Proofs.Ytgodaiiegcdpcaa.Abs
section
variable {P : Program} {E : Env} {a : Act} {T : Nat → V} {o : Oper} {v : V}

theorem purL_drop {fl : Bool} {xs : List C} (n : Nat) (h : purL fl xs = true) : purL fl (xs.drop n) = true := by
  induction n generalizing xs with
  | zero => exact h
  | succ n ih =>
    cases xs with
    | nil => rfl
    | cons x xs => simp only [purL, Bool.and_eq_true] at h; exact ih h.2

theorem purL_take {fl : Bool} {xs : List C} (n : Nat) (h : purL fl xs = true) : purL fl (xs.take n) = true := by
  induction n generalizing xs with
  | zero => rfl
  | succ n ih =>
    cases xs with
    | nil => rfl
    | cons x xs => simp only [purL, Bool.and_eq_true] at h; simp only [List.take_succ_cons, purL, Bool.and_eq_true]; exact ⟨h.1, ih h.2⟩

theorem q_slc {t : TypeId} {x : Operand} {x' : Opd} {lo hi : Option Operand} {lo' hi' : Option Opd} {sz : Nat} (ho : o.op = .slice t x lo hi none) (ht : tySl P t sz = true)
    (hx : opdOk x x' = true) (hlo : optOk lo lo' = true) (hhi : optOk hi hi' = true)
    (hT : TR E T a) (hq : quiet T (.slc x' lo' hi' sz) = some v) : ∃ v', Val P o a v' ∧ RelV E v v' := by
  have h1 := opdOk_rel hx hT
  obtain ⟨e, inf, hu, hinf, hsz⟩ := tySl_elem ht
  have key : ∀ (ad : Option Addr) (n cap h l : Nat) (w : World), (Instr.sliceBounds true n cap (lo.map a.eval) (hi.map a.eval) none).run P w = .ok (l, h, cap) w →
      (Instr.sliceAt t (.slice ad n cap) (lo.map a.eval) (hi.map a.eval) none).run P w = .ok (.slice (if cap = l then ad else ad.map (·.add (l * sz))) (h - l) (cap - l)) w := by
    intro ad n cap h l w hb
    simp [Instr.sliceAt, run_underlying hu, Instr.slice, hb, sizeOf, typeInfo, hinf, hsz]
  simp only [quiet] at hq
  split at hq
  · rename_i e' p sz' lo0 n hp
    rw [hp] at h1
    simp only [RelV, Rel] at h1
    obtain ⟨_, hal, k, cap, hv, hnc, hk, hcap, hko⟩ := h1
    split at hq
    · rename_i h hh
      split at hq
      · rename_i l hl
        split at hq
        · rename_i hs
          subst hs
          simp only [Option.some.injEq] at hq
          subst hq
          have hb := fun w => bounds_run (P := P) hT hlo hhi hh hl hnc true w
          have hlh := (hb default).2
          refine ⟨.slice (some ⟨(E.G e' p).1, if cap = l then k else k + l * sz', none⟩) (h - l) (cap - l), fun w => ?_, ?_⟩
          · have := key (some ⟨(E.G e' p).1, k, none⟩) n cap h l w (hb w).1
            simp [execOp, ho, hv, this]
            split <;> simp_all [Addr.add_lit]
          · dsimp only [RelV, Rel]
            refine ⟨rfl, hal, _, _, rfl, by omega, ?_, ?_, ?_⟩
            · by_cases hcl : cap = l
              · left; simp [hcl]
              · rcases hk with hk | hk
                · rcases Nat.mul_eq_zero.1 hk with h0 | h0
                  · omega
                  · left; simp [h0]
                · right; simp [hcl, hk, Nat.add_assoc]
            · by_cases hcl : cap = l
              · left; simp [hcl]
              · rcases hcap with h0 | h0
                · rcases Nat.mul_eq_zero.1 h0 with h0 | h0
                  · omega
                  · left; simp [h0]
                · right
                  have : l * sz' + (cap - l) * sz' = cap * sz' := by rw [← Nat.add_mul]; congr 1; omega
                  omega
            · by_cases hcl : cap = l
              · simp [hcl, hko]
              · simp only [hcl, if_false]
                have hll : l * sz' ≤ cap * sz' := Nat.mul_le_mul_right _ (by omega)
                rcases hk with hk | hk
                · have : l * sz' = 0 := by omega
                  omega
                · rcases hcap with h0 | h0
                  · have : l * sz' = 0 := by omega
                    omega
                  · omega
        · cases hq
      · cases hq
    · cases hq
  · rename_i fl sz' n xs hp
    rw [hp] at h1
    simp only [RelV, Rel] at h1
    obtain ⟨_, hxl, hcl0, ad, cap, hv, hnc, hxs⟩ := h1
    split at hq
    · rename_i h hh
      split at hq
      · rename_i l hl
        split at hq
        · rename_i hs
          subst hs
          simp only [Option.some.injEq] at hq
          subst hq
          have hb := fun w => bounds_run (P := P) hT hlo hhi hh hl hnc true w
          have hlh := (hb default).2
          have hlz : l * sz' + (h - l) * sz' ≤ n * sz' := by rw [← Nat.add_mul]; exact Nat.mul_le_mul_right _ (by omega)
          refine ⟨.slice (if cap = l then ad else ad.map (·.add (l * sz'))) (h - l) (cap - l), fun w => ?_, ?_⟩
          · simp [execOp, ho, hv, key ad n cap h l w (hb w).1]
          · dsimp only [RelV, Rel]
            refine ⟨rfl, by simp; omega, purL_take _ (purL_drop _ hcl0), _, _, rfl, by omega, ?_⟩
            rcases hxs with rfl | ⟨b, k, vs, rfl, hzn, hat, hr⟩
            · left; simp
            · by_cases hcl : cap = l
              · left
                have : h - l = 0 := by omega
                simp [this]
              · have hcut : cut (l * sz') ((h - l) * sz') xs = some ((xs.drop (l * sz')).take ((h - l) * sz')) := by
                  unfold cut; rw [if_pos (by omega)]
                obtain ⟨vs1, vs2, vs3, F1, F2, F3, rfl, hl1, hF, _, hr2, _⟩ := hr.cut hcut
                obtain ⟨rfl, hF'⟩ := List.append_eq_nil_iff.1 hF.symm
                obtain ⟨rfl, rfl⟩ := List.append_eq_nil_iff.1 hF'
                right
                refine ⟨b, k + l * sz', vs2, by simp [hcl, Addr.add_lit], hzn, ?_, hr2.flat_of_nil⟩
                have := hat.mid
                rw [hl1] at this
                exact this
        · cases hq
      · cases hq
    · cases hq
  · rename_i hp
    rw [hp] at h1
    simp only [RelV, Rel] at h1
    split at hq
    · rename_i h hh
      split at hq
      · rename_i l hl
        simp only [Option.some.injEq] at hq
        subst hq
        have hb := fun w => bounds_run (P := P) (n := 0) (cap := 0) hT hlo hhi (by simpa using hh) hl (Nat.le_refl _) true w
        have hlh := (hb default).2
        obtain rfl : h = 0 := by omega
        obtain rfl : l = 0 := by omega
        refine ⟨.slice none 0 0, fun w => ?_, by dsimp only [RelV, Rel]; exact ⟨rfl, rfl⟩⟩
        have := key none 0 0 0 0 w (hb w).1
        simp [execOp, ho, h1.1, this]
      · cases hq
    · cases hq
  · cases hq

theorem q_slcs {t : TypeId} {x : Operand} {x' : Opd} {lo hi : Option Operand} {lo' hi' : Option Opd} (ho : o.op = .slice t x lo hi none) (ht : P.underlying t = some .string)
    (hx : opdOk x x' = true) (hlo : optOk lo lo' = true) (hhi : optOk hi hi' = true)
    (hT : TR E T a) (hq : quiet T (.slcs x' lo' hi') = some v) : ∃ v', Val P o a v' ∧ RelV E v v' := by
  have h1 := opdOk_rel hx hT
  simp only [quiet] at hq
  split at hq
  · rename_i s hp
    rw [hp] at h1
    simp only [RelV, Rel] at h1
    split at hq
    · rename_i h hh
      split at hq
      · rename_i l hl
        simp only [Option.some.injEq] at hq
        subst hq
        have hb := fun w => bounds_run (P := P) hT hlo hhi hh hl (Nat.le_refl _) false w
        refine ⟨.string (s.extract l h), fun w => ?_, by dsimp only [RelV, Rel]; exact ⟨rfl, rfl⟩⟩
        simp [execOp, ho, h1.1, Instr.sliceAt, run_underlying ht, Instr.slice, (hb w).1]
      · cases hq
    · cases hq
  · cases hq

theorem RelUs.get : ∀ {us : List V} {vs : List Value} {i : Nat} {u : V}, RelUs E us vs → us[i]? = some u → ∃ w, vs[i]? = some w ∧ RelU E g0 u w []
  | [], _, _, _, _, h => by simp at h
  | x :: us, vs, i, u, r, h => by
    simp only [RelUs] at r
    obtain ⟨w, vs', rfl, h1, h2⟩ := r
    cases i with
    | zero => simp only [List.getElem?_cons_zero, Option.some.injEq] at h; subst h; exact ⟨w, rfl, h1⟩
    | succ i => simp only [List.getElem?_cons_succ] at h; obtain ⟨w', e, r⟩ := h2.get h; exact ⟨w', by simpa using e, r⟩

theorem q_ext {x : Operand} {x' : Opd} {i : Nat} (ho : o.op = .extract x i) (hx : opdOk x x' = true)
    (hT : TR E T a) (hq : quiet T (.ext x' i) = some v) : ∃ v', Val P o a v' ∧ RelV E v v' := by
  have h1 := opdOk_rel hx hT
  simp only [quiet] at hq
  split at hq
  · rename_i us hp
    rw [hp] at h1
    simp only [RelV] at h1
    obtain ⟨vs, hv, hr⟩ := h1
    obtain ⟨u, hu, hr⟩ := hr.get hq
    refine ⟨u, fun w => ?_, RelV.of_u hr⟩
    simp [execOp, ho, hv, Instr.extract, hu]
  · cases hq

theorem q_nilck {x : Operand} {x' : Opd} (ho : o.op = .nilCheck x) (hx : opdOk x x' = true)
    (hT : TR E T a) (hq : quiet T (.nilck x') = some v) : ∃ v', Val P o a v' ∧ RelV E v v' := by
  have h1 := opdOk_rel hx hT
  simp only [quiet] at hq
  split at hq
  · rename_i e p k hp
    simp only [Option.some.injEq] at hq
    subst hq
    rw [hp] at h1
    refine ⟨a.eval x, fun w => ?_, h1⟩
    dsimp only [RelV, Rel] at h1
    simp [execOp, ho, h1.2.2]
  · rename_i fl xs k hp
    simp only [Option.some.injEq] at hq
    subst hq
    rw [hp] at h1
    refine ⟨a.eval x, fun w => ?_, h1⟩
    dsimp only [RelV, Rel] at h1
    obtain ⟨_, b, o', vs, hv, _⟩ := h1
    simp [execOp, ho, hv]
  · cases hq

theorem q_conv {k : IntKind} {st dt : TypeId} {x : Operand} {x' : Opd} {ks : IntKind} (ho : o.op = .convert st dt x) (hs : P.underlying st = some (.int ks)) (hd : P.underlying dt = some (.int k))
    (hx : opdOk x x' = true) (hT : TR E T a) (hq : quiet T (.conv k x') = some v) : ∃ v', Val P o a v' ∧ RelV E v v' := by
  have h1 := opdOk_rel hx hT
  simp only [quiet] at hq
  split at hq
  · rename_i k' n hp
    simp only [Option.some.injEq] at hq
    subst hq
    rw [hp] at h1
    dsimp only [RelV, Rel] at h1
    refine ⟨.int k (k.wrap n), fun w => ?_, by dsimp only [RelV, Rel]; exact ⟨rfl, rfl⟩⟩
    simp [execOp, ho, h1.1, convert, run_underlying hs, run_underlying hd, Conv.intToInt]
  · cases hq

theorem q_mx {x y : Operand} {x' y' : Opd} {ts : Array TypeId} (ho : o.op = .call { callee := .builtin .max, args := #[x, y], argTypes := ts })
    (hx : opdOk x x' = true) (hy : opdOk y y' = true) (hT : TR E T a) (hq : quiet T (.mx x' y') = some v) : ∃ v', Val P o a v' ∧ RelV E v v' := by
  have h1 := opdOk_rel hx hT
  have h2 := opdOk_rel hy hT
  simp only [quiet] at hq
  split at hq
  · rename_i k p k' q hp hq'
    rw [hp] at h1
    rw [hq'] at h2
    dsimp only [RelV, Rel] at h1 h2
    split at hq
    · rename_i hk
      subst hk
      simp only [Option.some.injEq] at hq
      subst hq
      refine ⟨.int k (if q > p then q else p), fun w => ?_, by dsimp only [RelV, Rel]; exact ⟨rfl, rfl⟩⟩
      simp [execOp, ho, resolve, invoke, builtin, h1.1, h2.1, Builtin.max_, Builtin.max2]
    · cases hq
  · cases hq

theorem q_mn {x y : Operand} {x' y' : Opd} {ts : Array TypeId} (ho : o.op = .call { callee := .builtin .min, args := #[x, y], argTypes := ts })
    (hx : opdOk x x' = true) (hy : opdOk y y' = true) (hT : TR E T a) (hq : quiet T (.mn x' y') = some v) : ∃ v', Val P o a v' ∧ RelV E v v' := by
  have h1 := opdOk_rel hx hT
  have h2 := opdOk_rel hy hT
  simp only [quiet] at hq
  split at hq
  · rename_i k p k' q hp hq'
    rw [hp] at h1
    rw [hq'] at h2
    dsimp only [RelV, Rel] at h1 h2
    split at hq
    · rename_i hk
      subst hk
      simp only [Option.some.injEq] at hq
      subst hq
      refine ⟨.int k (if q < p then q else p), fun w => ?_, by dsimp only [RelV, Rel]; exact ⟨rfl, rfl⟩⟩
      simp [execOp, ho, resolve, invoke, builtin, h1.1, h2.1, Builtin.min_, Builtin.min2]
    · cases hq
  · cases hq

end
end Go.Proofs.Ytgodaiiegcdpcaa.Abs
end
section
set_option linter.unusedVariables false
set_option linter.unusedSimpArgs false
namespace Go.Proofs.Ytgodaiiegcdpcaa.Abs
section
variable {P : Program} {E : Env} {a : Act} {T : Nat → V} {o : Oper} {v : V}

theorem lies_one {h : List Nat → Key} {x : C} {w : Value} {F : List Nat} (hx : lies x = true) (r : Rel E h x w F) : w.oneCell' = true ∧ w.cells = #[w] := by
  cases x <;> first
    | (cases hx; done)
    | (dsimp only [Rel] at r; obtain ⟨rfl, _⟩ := r; exact ⟨rfl, rfl⟩)
    | (dsimp only [Rel] at r; obtain ⟨_, _, a, cap, rfl, _⟩ := r; exact ⟨rfl, rfl⟩)
    | (dsimp only [Rel] at r; obtain ⟨_, _, _, a, cap, rfl, _⟩ := r; exact ⟨rfl, rfl⟩)
    | (dsimp only [Rel] at r; obtain ⟨_, _, rfl⟩ := r; exact ⟨rfl, rfl⟩)

theorem lies_all {g : Nat → List Nat → Key} : ∀ {xs : List C} {vs : List Value} {F : List Nat}, xs.all lies = true → RelL E g xs vs F → ∀ u ∈ vs, u.oneCell' = true
  | [], vs, F, _, r, u, hu => by simp only [RelL] at r; rw [r.1] at hu; cases hu
  | x :: xs, vs, F, hx, r, u, hu => by
    simp only [RelL] at r
    obtain ⟨v, vs', F1, F2, rfl, rfl, h1, h2⟩ := r
    simp only [List.all_cons, Bool.and_eq_true] at hx
    rcases List.mem_cons.1 hu with rfl | hu
    · exact (lies_one hx.1 h1).1
    · exact lies_all hx.2 h2 u hu

theorem cellsV_rel {x : V} {w : Value} {us : List C} (h : cellsV x = some us) (hl : us.all lies = true) (r : RelV E x w) : RelL E g0 us w.cells.toList [] := by
  cases x with
  | c x =>
    simp only [cellsV, Option.some.injEq] at h
    subst h
    have := (lies_one (by simpa using hl) r).2
    rw [this]
    simp only [RelL]
    exact ⟨w, [], [], [], rfl, rfl, r, rfl, rfl⟩
  | agg xs =>
    simp only [cellsV, Option.some.injEq] at h
    subst h
    obtain ⟨vs, rfl, hr⟩ := r
    exact hr
  | bx xs => cases h
  | tup us => cases h

theorem wr_some {off : Nat} {us xs ys : List C} (h : wr off us xs = some ys) : off + us.length ≤ xs.length ∧ ys = xs.take off ++ us ++ xs.drop (off + us.length) := by
  unfold wr at h
  split at h
  · exact ⟨‹_›, by simpa using h.symm⟩
  · cases h

theorem wr_length {off : Nat} {us xs ys : List C} (h : wr off us xs = some ys) : ys.length = xs.length := by
  obtain ⟨h1, rfl⟩ := wr_some h
  simp; omega

theorem fold_cells (off : Nat) : ∀ (us : List Value) (k : Nat) (cs : Array Value), off + k + us.length ≤ cs.size →
    (us.zipIdx k).foldl (fun cs (p : Value × Nat) => cs.setIfInBounds (off + p.2) p.1) cs = (cs.toList.take (off + k) ++ us ++ cs.toList.drop (off + k + us.length)).toArray
  | [], k, cs, _ => by simp
  | u :: us, k, cs, h => by
    simp only [List.length_cons] at h
    simp only [List.zipIdx_cons, List.foldl_cons]
    rw [fold_cells off us (k + 1) _ (by simp; omega)]
    apply Array.toList_inj.1
    simp only [Array.toList_setIfInBounds]
    have hlt : off + k < cs.toList.length := by simp; omega
    rw [← Nat.add_assoc off k 1, List.take_succ_eq_append_getElem (by simp; omega)]
    simp only [List.getElem_set_self, List.length_cons]
    rw [List.take_set_of_le (Nat.le_refl _), List.drop_set_of_lt (by omega)]
    have : off + k + 1 + us.length = off + k + (us.length + 1) := by omega
    rw [this]
    simp

theorem RelL.wr {g : Nat → List Nat → Key} {off : Nat} {us xs ys : List C} {vs ws : List Value} {F : List Nat} (h : Abs.wr off us xs = some ys) (hu : us.all Abs.flat = true)
    (r : RelL E g xs vs F) (ru : RelL E g0 us ws []) : ∃ F', F'.Sublist F ∧ RelL E g ys (vs.take off ++ ws ++ vs.drop (off + us.length)) F' ∧ off + us.length ≤ vs.length := by
  obtain ⟨h1, rfl⟩ := wr_some h
  have hcut : Abs.cut off us.length xs = some ((xs.drop off).take us.length) := by unfold Abs.cut; rw [if_pos h1]
  obtain ⟨vs1, vs2, vs3, F1, F2, F3, rfl, hl, rfl, r1, r2, r3⟩ := r.cut hcut
  have hl2 : vs2.length = us.length := by rw [r2.length]; simp; omega
  refine ⟨F1 ++ F3, ?_, ?_, by simp; omega⟩
  · exact (List.Sublist.refl F1).append (List.sublist_append_right F2 F3)
  · have e1 : (vs1 ++ (vs2 ++ vs3)).take off = vs1 := by rw [← hl]; simp
    have e2 : (vs1 ++ (vs2 ++ vs3)).drop (off + us.length) = vs3 := by
      rw [← List.append_assoc, ← hl2, ← hl, ← List.length_append]; simp
    rw [e1, e2]
    have hlen1 : (xs.take off).length = off := by simp; omega
    have := (r1.append (ys := us ++ xs.drop (off + us.length)) (vs2 := ws ++ vs3) (F2 := [] ++ F3) ?_)
    · simpa using this
    · rw [hlen1]
      refine ((ru.flat (g' := fun j => g (off + j)) hu).2).append ?_
      simpa only [Nat.add_assoc] using r3

theorem all_flat {us : List C} (h : us.all lies = true) : us.all Abs.flat = true := by
  rw [List.all_eq_true] at h ⊢
  exact fun x hx => flat_of_lies (h x hx)

theorem fill_rel {place : Nat → Option (Nat × Nat)} (hT : TR E T a) : ∀ {ps : List (Nat × Operand)} {qs : List (Nat × Nat × Opd)} {cells cs : List C} {vs : List Value},
    partsOk place ps qs = true → fillC T cells qs = some cs → RelL E g0 cells vs [] →
    ∃ vs', Instr.fill place vs.toArray (ps.map fun p => (p.1, a.eval p.2)) = some vs'.toArray ∧ RelL E g0 cs vs' []
  | [], [], cells, cs, vs, _, hf, r => by
    simp only [fillC, Option.some.injEq] at hf
    subst hf
    exact ⟨vs, rfl, r⟩
  | (i, x) :: ps, (off, s, y) :: qs, cells, cs, vs, hp, hf, r => by
    simp only [partsOk, Bool.and_eq_true, beq_iff_eq] at hp
    obtain ⟨⟨hpl, hxy⟩, hps⟩ := hp
    simp only [fillC] at hf
    split at hf
    · rename_i us hus
      split at hf
      · rename_i hc
        split at hf
        · rename_i cells' hw
          have ru := cellsV_rel hus hc.2 (opdOk_rel hxy hT)
          obtain ⟨F', hF', r', hle⟩ := r.wr hw (all_flat hc.2) ru
          have hF0 : F' = [] := List.sublist_nil.1 hF'
          subst hF0
          obtain ⟨vs', he, hr'⟩ := fill_rel hT hps hf r'
          refine ⟨vs', ?_, hr'⟩
          have hsz : (a.eval x).cells.size = s := by rw [← Array.length_toList, ru.length, hc.1]
          have hfold := fold_cells off (a.eval x).cells.toList 0 vs.toArray (by simp; rw [hsz]; rw [← hc.1]; exact hle)
          simp only [List.map_cons, Instr.fill, hpl, hsz]
          rw [if_neg (by simp; rw [← hc.1]; exact hle)]
          rw [← Array.foldl_toList, Array.toList_zipIdx, hfold]
          simp only [Nat.add_zero, Array.length_toList, hsz]
          simp only [hc.1] at he
          exact he
        · cases hf
      · cases hf
    · cases hf
  | [], _ :: _, _, _, _, hp, _, _ => by simp [partsOk] at hp
  | _ :: _, [], _, _, _, hp, _, _ => by simp [partsOk] at hp

end
end Go.Proofs.Ytgodaiiegcdpcaa.Abs
end
section
set_option linter.unusedVariables false
set_option linter.unusedSimpArgs false
namespace Go.Proofs.Ytgodaiiegcdpcaa.Abs

/-- The frame's state: its temporaries, and for each event that there is the blocks that it owns. -/
structure SR (N : Nat) (s : St) (a : Act) (E : Env) (Fe : Id → List Nat) : Prop where
  tmps : TR E s.T a
  width : a.tmps.size = N
  defers : a.defers = []
  node : ∀ e xs, s.H e = some xs → E.Al e → NodeAt E (E.G e) xs (Fe e)
  empty : ∀ e, s.H e = none ∨ ¬ E.Al e → Fe e = []
  nodup : ∀ e, (Fe e).Nodup
  disj : ∀ e e' b, b ∈ Fe e → b ∈ Fe e' → e = e'
  size : ∀ e b, b ∈ Fe e → b < E.w.heap.size
  zone : ∀ fl b, E.Z fl b → ∀ e, b ∉ Fe e
  zlt : ∀ fl b, E.Z fl b → b < E.w.heap.size
  xlt : ∀ b k, E.X b k → b < E.w.heap.size

theorem RelUs.mono {E E' : Env} (k : E.Keeps E') : ∀ {us : List V} {vs : List Value}, RelUs E us vs → RelUs E' us vs
  | [], _, r => r
  | u :: us, vs, r => by
    simp only [RelUs] at r ⊢
    obtain ⟨v, vs', rfl, h1, h2⟩ := r
    refine ⟨v, vs', rfl, ?_, RelUs.mono k h2⟩
    cases u with
    | c x => exact Rel.mono x k.le h1
    | agg xs => obtain ⟨ws, rfl, hr⟩ := h1; exact ⟨ws, rfl, RelL.mono xs k.le hr⟩
    | bx _ => exact h1.elim
    | tup _ => exact h1.elim

theorem RelV.mono {E E' : Env} (k : E.Keeps E') {u : V} {v : Value} (r : RelV E u v) : RelV E' u v := by
  cases u with
  | c x => exact Rel.mono x k.le r
  | agg xs => obtain ⟨ws, rfl, hr⟩ := r; exact ⟨ws, rfl, RelL.mono xs k.le hr⟩
  | bx _ => exact r.elim
  | tup us => obtain ⟨vs, rfl, hr⟩ := r; exact ⟨vs, rfl, RelUs.mono k hr⟩

theorem TR.mono {E E' : Env} (k : E.Keeps E') {T : Nat → V} {a : Act} (r : TR E T a) : TR E' T a := fun t => (r t).mono k

/-- A temporary written. -/
theorem TR.put {E : Env} {T : Nat → V} {a : Act} (r : TR E T a) {d : Option Nat} {v : V} {u : Value} (hd : ∀ t, d = some t → t < a.tmps.size) (h : RelV E v u) : TR E (putT T d v) (a.put d u) := by
  intro t
  cases d with
  | none => exact r t
  | some d =>
    simp only [putT, Act.put, upd]
    by_cases ht : t = d
    · subst ht
      rw [if_pos rfl]
      have : (a.tmps.setIfInBounds t u).getD t undef = u := by simp [hd t rfl]
      rw [this]; exact h
    · rw [if_neg ht]
      have : (a.tmps.setIfInBounds d u).getD t undef = a.tmps.getD t undef := by
        simp [Array.getElem?_setIfInBounds_ne (Ne.symm ht)]
      rw [this]; exact r t

theorem put_size (a : Act) (d : Option Nat) (u : Value) : (a.put d u).tmps.size = a.tmps.size := by
  cases d <;> simp [Act.put]

theorem put_defers' (a : Act) (d : Option Nat) (u : Value) : (a.put d u).defers = a.defers := by
  cases d <;> rfl

/-- What a step may do to the world and to the books. -/
structure Grow (E E' : Env) (Fe Fe' : Id → List Nat) : Prop where
  keeps : E.Keeps E'
  zone : E'.Z = E.Z
  size : E.w.heap.size ≤ E'.w.heap.size
  old : ∀ b, b < E.w.heap.size → (∀ e, b ∉ Fe e) → E'.w.heap[b]? = E.w.heap[b]?
  foot : ∀ e b, b ∈ Fe' e → (∃ e0, b ∈ Fe e0) ∨ E.w.heap.size ≤ b
  os : E'.w.os = E.w.os
  tape : E'.w.tape = E.w.tape
  output : E'.w.output = E.w.output
  cells : ∀ b k, E.X b k → E'.w.cell? ⟨b, k, none⟩ = E.w.cell? ⟨b, k, none⟩
  shape : ∀ (b : Nat) (c : Array Value) (t : TypeId) (fr : Nat × Nat), E.w.heap[b]? = some (.cells c t fr) → ∃ c' : Array Value, E'.w.heap[b]? = some (.cells c' t fr) ∧ c'.size = c.size
  same : E'.X = E.X

theorem Grow.refl (E : Env) (Fe : Id → List Nat) : Grow E E Fe Fe :=
  ⟨.refl E, rfl, Nat.le_refl _, fun _ _ _ => rfl, fun e b h => .inl ⟨e, h⟩, rfl, rfl, rfl, fun _ _ _ => rfl, fun _ c _ _ h => ⟨c, h, rfl⟩, rfl⟩

theorem Env.Keeps.trans {E1 E2 E3 : Env} (h : E1.Keeps E2) (k : E2.Keeps E3) : E1.Keeps E3 :=
  ⟨fun fl b hb => ⟨(k.zone fl b (h.zone fl b hb).1).1, ((k.zone fl b (h.zone fl b hb).1).2).trans (h.zone fl b hb).2⟩,
    fun e p ha => (k.key e p (h.al e ha)).trans (h.key e p ha), fun e ha => k.al e (h.al e ha), fun b j hx => h.prot b j (k.prot b j hx)⟩

theorem Grow.trans {E1 E2 E3 : Env} {F1 F2 F3 : Id → List Nat} (h : Grow E1 E2 F1 F2) (k : Grow E2 E3 F2 F3) : Grow E1 E3 F1 F3 := by
  refine ⟨h.keeps.trans k.keeps, k.zone.trans h.zone, Nat.le_trans h.size k.size, fun b hb hn => ?_, fun e b hb => ?_, k.os.trans h.os, k.tape.trans h.tape, k.output.trans h.output,
    fun b j hx => (k.cells b j (by rw [h.same]; exact hx)).trans (h.cells b j hx), fun b c t fr hb => ?_, k.same.trans h.same⟩
  · have : ∀ e, b ∉ F2 e := fun e he => by
      rcases h.foot e b he with ⟨e0, h0⟩ | h0
      · exact hn e0 h0
      · omega
    exact (k.old b (Nat.lt_of_lt_of_le hb h.size) this).trans (h.old b hb hn)
  · rcases k.foot e b hb with ⟨e0, h0⟩ | h0
    · exact h.foot e0 b h0
    · exact .inr (Nat.le_trans h.size h0)
  · obtain ⟨c1, h1, s1⟩ := h.shape b c t fr hb
    obtain ⟨c2, h2, s2⟩ := k.shape b c1 t fr h1
    exact ⟨c2, h2, s2.trans s1⟩

/-- A step that leaves all old blocks as they were. -/
theorem Grow.of_old {E E' : Env} {Fe Fe' : Id → List Nat} (hx : ∀ b k, E.X b k → b < E.w.heap.size) (hk : E.Keeps E') (hZ : E'.Z = E.Z) (hX : E'.X = E.X) (hsz : E.w.heap.size ≤ E'.w.heap.size)
    (hold : ∀ b, b < E.w.heap.size → E'.w.heap[b]? = E.w.heap[b]?) (hf : ∀ e b, b ∈ Fe' e → (∃ e0, b ∈ Fe e0) ∨ E.w.heap.size ≤ b)
    (h1 : E'.w.os = E.w.os) (h2 : E'.w.tape = E.w.tape) (h3 : E'.w.output = E.w.output) : Grow E E' Fe Fe' :=
  ⟨hk, hZ, hsz, fun b hb _ => hold b hb, hf, h1, h2, h3, fun b k hxx => World.cell?_of_block (hold b (hx b k hxx)),
    fun b c t fr hb => ⟨c, (hold b (Array.getElem?_eq_some_iff.1 hb).1).trans hb, rfl⟩, hX⟩

section
variable {N : Nat} {s : St} {a : Act} {E : Env} {Fe : Id → List Nat}

theorem SR.put (h : SR N s a E Fe) {d : Option Nat} {v : V} {u : Value} (hd : ∀ t, d = some t → t < N) (hv : RelV E v u) : SR N { s with T := putT s.T d v } (a.put d u) E Fe :=
  ⟨h.tmps.put (fun t ht => by rw [h.width]; exact hd t ht) hv, (put_size a d u).trans h.width, (put_defers' a d u).trans h.defers, h.node, h.empty, h.nodup, h.disj, h.size, h.zone, h.zlt, h.xlt⟩

/-- A new event. -/
theorem SR.add (h : SR N s a E Fe) {E' : Env} {i : Id} {xs : List C} {F : List Nat} (hi : ¬ E.Al i) (hk : E.Keeps E') (hZ : E'.Z = E.Z) (hal : ∀ e, E'.Al e ↔ E.Al e ∨ e = i)
    (hsz : E.w.heap.size ≤ E'.w.heap.size) (hb : ∀ e b, b ∈ Fe e → E'.w.heap[b]? = E.w.heap[b]?) (hn : NodeAt E' (E'.G i) xs F) (hF : F.Nodup)
    (hd : ∀ b ∈ F, (∀ e, b ∉ Fe e) ∧ b < E'.w.heap.size ∧ ∀ fl, ¬ E.Z fl b) : SR N { s with H := upd s.H i (some xs) } a E' (upd Fe i F) := by
  have hFi : Fe i = [] := h.empty i (.inr hi)
  refine ⟨h.tmps.mono hk, h.width, h.defers, fun e ys he ha => ?_, fun e he => ?_, fun e => ?_, fun e e' b h1 h2 => ?_, fun e b hb' => ?_, fun fl b hz e => ?_, fun fl b hz => Nat.lt_of_lt_of_le (h.zlt fl b (hZ ▸ hz)) hsz, fun b k hx => Nat.lt_of_lt_of_le (h.xlt b k (hk.prot b k hx)) hsz⟩
  · by_cases hei : e = i
    · subst hei
      simp only [upd_same, Option.some.injEq] at he ⊢
      subst he
      exact hn
    · rw [show ({ s with H := upd s.H i (some xs) } : St).H e = s.H e from upd_ne _ _ hei] at he
      rw [upd_ne _ _ hei]
      have hae : E.Al e := ((hal e).1 ha).resolve_right hei
      have := (h.node e ys he hae).mono ⟨hk, fun b hb' => hb e b hb'⟩
      have hg : E'.G e = E.G e := funext fun p => hk.key e p hae
      rw [hg]; exact this
  · by_cases hei : e = i
    · subst hei
      rcases he with he | he
      · simp at he
      · exact absurd ((hal e).2 (.inr rfl)) he
    · rw [upd_ne _ _ hei]
      rw [show ({ s with H := upd s.H i (some xs) } : St).H e = s.H e from upd_ne _ _ hei] at he
      exact h.empty e (he.imp id fun h' hae => h' ((hal e).2 (.inl hae)))
  · by_cases hei : e = i
    · subst hei; simpa using hF
    · rw [upd_ne _ _ hei]; exact h.nodup e
  · by_cases h1i : e = i
    · by_cases h2i : e' = i
      · rw [h1i, h2i]
      · subst h1i
        simp only [upd_same] at h1
        rw [upd_ne _ _ h2i] at h2
        exact absurd h2 ((hd b h1).1 e')
    · rw [upd_ne _ _ h1i] at h1
      by_cases h2i : e' = i
      · subst h2i
        simp only [upd_same] at h2
        exact absurd h1 ((hd b h2).1 e)
      · rw [upd_ne _ _ h2i] at h2
        exact h.disj e e' b h1 h2
  · by_cases hei : e = i
    · subst hei; simp only [upd_same] at hb'; exact (hd b hb').2.1
    · rw [upd_ne _ _ hei] at hb'; exact Nat.lt_of_lt_of_le (h.size e b hb') hsz
  · rw [hZ] at hz
    by_cases hei : e = i
    · subst hei; simp only [upd_same]; exact fun hb' => (hd b hb').2.2 fl hz
    · rw [upd_ne _ _ hei]; exact h.zone fl b hz e

/-- A node turned in its place. -/
theorem SR.turn (h : SR N s a E Fe) {E' : Env} {e : Id} {p : List Nat} {f : List C → Option (List C)} {H' : Heap} (hlf : ∀ a b, f a = some b → b.length = a.length)
    (ha : E.Al e) (ht : turnN s.H e p f = some H') :
    ∃ ys ys' Fy, getN s.H e p = some ys ∧ f ys = some ys' ∧ NodeAt E (fun r => E.G e (p ++ r)) ys Fy ∧ Fy.Sublist (Fe e) ∧
      ∀ Fy', E.Keeps E' → E'.Z = E.Z → (∀ e, E'.Al e ↔ E.Al e) → E.w.heap.size ≤ E'.w.heap.size → (∀ b, b ≠ (E.G e p).1 → b < E.w.heap.size → E'.w.heap[b]? = E.w.heap[b]?) → Fy'.Sublist Fy →
        NodeAt E' (fun r => E.G e (p ++ r)) ys' Fy' → ∃ F', F'.Sublist (Fe e) ∧ (∀ b ∈ F', b ∈ Fy' ∨ b ∉ Fy) ∧ SR N { s with H := H' } a E' (upd Fe e F') := by
  unfold turnN at ht
  cases hx : s.H e with
  | none => simp [hx] at ht
  | some xs =>
    simp only [hx] at ht
    cases hw : Abs.turn f p xs with
    | none => simp [hw] at ht
    | some xs' =>
      simp only [hw, Option.some.injEq] at ht
      subst ht
      have hnode := h.node e xs hx ha
      obtain ⟨ys, ys', Fy, h1, h2, h3, h4, K⟩ := node_turn (E' := E') hlf hnode (h.nodup e) hw
      refine ⟨ys, ys', Fy, by simp [getN, hx, h1], h2, h3, h4, fun Fy' hk hZ hal hsz hb hs hn => ?_⟩
      obtain ⟨F', hF', hn', hm⟩ := K Fy' hk (fun b hb' hne => hb b hne (h.size e b hb')) hs hn
      have hbl : (E.G e p).1 ∈ Fe e := h4.subset (by obtain ⟨_, _, e1, _⟩ := h3; rw [e1]; simp)
      refine ⟨F', hF', hm, ?_⟩
      refine ⟨h.tmps.mono hk, h.width, h.defers, fun e2 zs he hae => ?_, fun e2 he => ?_, fun e2 => ?_, fun e2 e3 b q1 q2 => ?_, fun e2 b hb' => ?_, fun fl b hz e2 => ?_, fun fl b hz => Nat.lt_of_lt_of_le (h.zlt fl b (hZ ▸ hz)) hsz, fun b k hx => Nat.lt_of_lt_of_le (h.xlt b k (hk.prot b k hx)) hsz⟩
      · by_cases hei : e2 = e
        · subst hei
          simp only [upd_same, Option.some.injEq] at he ⊢
          subst he
          have hg : E'.G e2 = E.G e2 := funext fun q => hk.key e2 q ha
          rw [hg]; exact hn'
        · rw [show ({ s with H := upd s.H e (some xs') } : St).H e2 = s.H e2 from upd_ne _ _ hei] at he
          rw [upd_ne _ _ hei]
          have hae' : E.Al e2 := (hal e2).1 hae
          have := (h.node e2 zs he hae').mono (E' := E') ⟨hk, fun b hb' => hb b (fun e1 => hei (h.disj e2 e b hb' (by rw [e1]; exact hbl))) (h.size e2 b hb')⟩
          have hg : E'.G e2 = E.G e2 := funext fun q => hk.key e2 q hae'
          rw [hg]; exact this
      · by_cases hei : e2 = e
        · subst hei
          rcases he with he | he
          · simp at he
          · exact absurd ((hal e2).2 ha) he
        · rw [upd_ne _ _ hei]
          rw [show ({ s with H := upd s.H e (some xs') } : St).H e2 = s.H e2 from upd_ne _ _ hei] at he
          exact h.empty e2 (he.imp id fun h' hae => h' ((hal e2).2 hae))
      · by_cases hei : e2 = e
        · subst hei; simp only [upd_same]; exact hF'.nodup (h.nodup e2)
        · rw [upd_ne _ _ hei]; exact h.nodup e2
      · have sub : ∀ e4, b ∈ upd Fe e F' e4 → b ∈ Fe e4 := fun e4 hb4 => by
          by_cases hei : e4 = e
          · subst hei; simp only [upd_same] at hb4; exact hF'.subset hb4
          · rwa [upd_ne _ _ hei] at hb4
        exact h.disj e2 e3 b (sub e2 q1) (sub e3 q2)
      · have sub : b ∈ Fe e2 := by
          by_cases hei : e2 = e
          · subst hei; simp only [upd_same] at hb'; exact hF'.subset hb'
          · rwa [upd_ne _ _ hei] at hb'
        exact Nat.lt_of_lt_of_le (h.size e2 b sub) hsz
      · rw [hZ] at hz
        intro hb'
        have sub : b ∈ Fe e2 := by
          by_cases hei : e2 = e
          · subst hei; simp only [upd_same] at hb'; exact hF'.subset hb'
          · rwa [upd_ne _ _ hei] at hb'
        exact h.zone fl b hz e2 sub

theorem walk_append : ∀ (p q : List Nat) (xs : List C), walk (p ++ q) xs = (walk p xs).bind (walk q)
  | [], q, xs => rfl
  | j :: p, q, xs => by
    simp only [List.cons_append, walk]
    split
    · exact walk_append p q _
    · rfl

/-- A node taken out: what it owned is nobody's then. -/
theorem SR.kill (h : SR N s a E Fe) {e : Id} {p : List Nat} {H' : Heap} {ys : List C} (ha : E.Al e) (hg : getN s.H e p = some ys) (hkl : kill s.H e p = some H') :
    ∃ F Fe', NodeAt E (fun r => E.G e (p ++ r)) ys F ∧ F.Sublist (Fe e) ∧ (∀ b ∈ F, ∀ e2, b ∉ Fe' e2) ∧ (∀ e2, (Fe' e2).Sublist (Fe e2)) ∧ SR N { s with H := H' } a E Fe' := by
  cases hx : s.H e with
  | none => simp [getN, hx] at hg
  | some xs =>
    have hnode := h.node e xs hx ha
    cases p with
    | nil =>
      simp only [Abs.kill, Option.some.injEq] at hkl
      subst hkl
      simp only [getN, hx, walk, Option.some.injEq] at hg
      subst hg
      have sub : ∀ e2, (upd Fe e [] e2).Sublist (Fe e2) := fun e2 => by
        by_cases hei : e2 = e
        · subst hei; simp
        · rw [upd_ne _ _ hei]; exact List.Sublist.refl _
      refine ⟨Fe e, upd Fe e [], hnode, List.Sublist.refl _, fun b hb e2 hb2 => ?_, sub, ?_⟩
      · by_cases hei : e2 = e
        · subst hei; simp at hb2
        · rw [upd_ne _ _ hei] at hb2
          exact hei (h.disj e2 e b hb2 hb)
      · refine ⟨h.tmps, h.width, h.defers, fun e2 zs he hae => ?_, fun e2 he => ?_, fun e2 => (sub e2).nodup (h.nodup e2), fun e2 e3 b q1 q2 => h.disj e2 e3 b ((sub e2).subset q1) ((sub e3).subset q2),
          fun e2 b hb' => h.size e2 b ((sub e2).subset hb'), fun fl b hz e2 hb' => h.zone fl b hz e2 ((sub e2).subset hb'), h.zlt, h.xlt⟩
        · by_cases hei : e2 = e
          · subst hei; simp at he
          · rw [show ({ s with H := upd s.H e none } : St).H e2 = s.H e2 from upd_ne _ _ hei] at he
            rw [upd_ne _ _ hei]
            exact h.node e2 zs he hae
        · by_cases hei : e2 = e
          · subst hei; simp
          · rw [upd_ne _ _ hei]
            rw [show ({ s with H := upd s.H e none } : St).H e2 = s.H e2 from upd_ne _ _ hei] at he
            exact h.empty e2 he
    | cons j q =>
      have hp : j :: q = (j :: q).dropLast ++ [(j :: q).getLast (by simp)] := (List.dropLast_concat_getLast (by simp)).symm
      simp only [Abs.kill] at hkl
      generalize hl : (j :: q).getLast (by simp) = l at hkl hp
      generalize hp' : (j :: q).dropLast = p' at hkl hp
      rw [hp] at hg ⊢
      obtain ⟨zs, zs', Fy, h1, h2, h3, h4, K⟩ := h.turn (E' := E) (fun a b hab => by split at hab <;> simp at hab; subst hab; simp) ha hkl
      split at h2
      · rename_i hlt
        simp only [Option.some.injEq] at h2
        subst h2
        have hyz : ∃ sz n, zs[l]? = some (.inl sz n ys) := by
          simp only [getN, hx] at hg h1
          rw [walk_append, h1] at hg
          simp only [Option.bind_some, walk] at hg
          split at hg
          · rename_i sz n ws hw
            simp only [Option.some.injEq] at hg
            subst hg
            exact ⟨sz, n, hw⟩
          · cases hg
        obtain ⟨sz, n, hyz⟩ := hyz
        have hFy : Fy.Nodup := h4.nodup (h.nodup e)
        obtain ⟨vs, F0, rfl, hb, hlen, hat, hr⟩ := h3
        obtain ⟨v, F1, hv, hrel, hs1, M⟩ := hr.set (E' := E) (y := .dead) (List.nodup_cons.1 hFy).2 hyz
        obtain ⟨F2, hF2, hr2, hm2⟩ := M v [] (.refl E) (fun _ _ _ => rfl) (List.nil_sublist _) rfl
        obtain ⟨cap, hv', hc, hk, hl2, hnode1⟩ := hrel.node
        rw [set_same hv] at hr2
        obtain ⟨F', hF', hm, hSR⟩ := K ((E.G e (p' ++ [])).1 :: F2) (.refl E) rfl (fun _ => Iff.rfl) (Nat.le_refl _) (fun _ _ _ => rfl) (hF2.cons_cons _) ⟨vs, F2, rfl, hb, by simpa using hlen, hat, hr2⟩
        have hnode2 : NodeAt E (fun r => E.G e (p' ++ [l] ++ r)) ys F1 := by
          have e1 : (fun r => E.G e (p' ++ [l] ++ r)) = fun r => E.G e (p' ++ (l :: r)) := by funext r; simp
          rw [e1]; exact hnode1
        have sub : ∀ e2, (upd Fe e F' e2).Sublist (Fe e2) := fun e2 => by
          by_cases hei : e2 = e
          · subst hei; simpa using hF'
          · rw [upd_ne _ _ hei]; exact List.Sublist.refl _
        refine ⟨F1, upd Fe e F', hnode2, (hs1.trans (List.sublist_cons_self _ _)).trans h4, fun b hb1 e2 hb2 => ?_, sub, hSR⟩
        by_cases hei : e2 = e
        · subst hei
          simp only [upd_same] at hb2
          rcases hm b hb2 with h5 | h5
          · rcases List.mem_cons.1 h5 with h6 | h6
            · exact (List.nodup_cons.1 hFy).1 (h6 ▸ hs1.subset hb1)
            · rcases hm2 b h6 with h7 | h7
              · cases h7
              · exact h7 hb1
          · exact h5 (List.mem_cons_of_mem _ (hs1.subset hb1))
        · rw [upd_ne _ _ hei] at hb2
          exact hei (h.disj e2 e b hb2 (h4.subset (List.mem_cons_of_mem _ (hs1.subset hb1))))
      · cases h2

end
end Go.Proofs.Ytgodaiiegcdpcaa.Abs
end
section
set_option linter.unusedVariables false
set_option linter.unusedSimpArgs false
namespace Go.Proofs.Ytgodaiiegcdpcaa.Abs

/-- The operation runs and leaves a value. -/
def Does (P : Program) (o : Oper) (a : Act) (w : World) (u : Value) (w' : World) : Prop :=
  (execOp a.eval o).run P w = .ok (.value u) w' ∨ ((execOp a.eval o).run P w = .ok .skip w' ∧ u = undef)

/-- The step of the frame is the step of the machine. -/
def StepOK (P : Program) (N : Nat) (o : Oper) (a : Act) (E : Env) (Fe : Id → List Nat) (s' : St) (new : Id → Prop) : Prop :=
  ∃ u E' Fe', Does P o a E.w u E'.w ∧ SR N s' (a.put o.dst u) E' Fe' ∧ Grow E E' Fe Fe' ∧ ∀ e, E'.Al e ↔ E.Al e ∨ new e

section
variable {P : Program} {N : Nat} {s s' : St} {a : Act} {E : Env} {Fe : Id → List Nat} {o : Oper} {d : Option Nat}

theorem step_quiet (h : SR N s a E Fe) (hd : ∀ t, d = some t → t < N) (hod : o.dst = d) {v : V} {new : Id → Prop} (hnew : ∀ e, ¬ new e)
    (hv : ∃ v', Val P o a v' ∧ RelV E v v') (hs : s' = { s with T := putT s.T d v }) : StepOK P N o a E Fe s' new := by
  obtain ⟨u, hu, hr⟩ := hv
  subst hs
  refine ⟨u, E, Fe, .inl (hu E.w), by rw [hod]; exact h.put hd hr, .refl E Fe, fun e => ⟨.inl, fun hh => hh.resolve_right (hnew e)⟩⟩

theorem RelL.looks {e : Id} {p : List Nat} (ha : E.Al e) : ∀ {ys : List C} {j0 : Nat} {g : Nat → List Nat → Key} {vs : List Value} {F : List Nat}, (∀ i q, g i q = E.G e (p ++ ((j0 + i) :: q))) →
    RelL E g ys vs F → RelL E g0 (looks e p j0 ys) vs []
  | [], _, _, _, _, _, r => by simp only [RelL] at r; simp [Abs.looks, RelL, r.1]
  | y :: ys, j0, g, vs, F, hg, r => by
    simp only [RelL] at r
    obtain ⟨v, vs', F1, F2, rfl, rfl, h1, h2⟩ := r
    simp only [Abs.looks, RelL]
    refine ⟨v, vs', [], [], rfl, rfl, ?_, RelL.looks ha (fun i q => by rw [hg]; congr 3; omega) h2⟩
    have hg0 := fun q => hg 0 q
    by_cases hy : Abs.flat y = true
    · have : look e p j0 y = y := by cases y <;> first | rfl | cases hy
      rw [this]
      exact (h1.flat hy).2
    · cases y <;> simp [Abs.flat] at hy
      · rename_i sz n zs
        obtain ⟨cap, rfl, hc, hk, hl, hn⟩ := h1.node
        rw [hg0] at hk ⊢
        simp only [look]
        dsimp only [Rel]
        refine ⟨rfl, ha, _, cap, rfl, hc, .inr (by simp), .inr (by simp only [Nat.add_zero] at hk; rw [hk]; simp), by simp⟩

theorem run_loadVar {t : TypeId} {ag : Bool} {sz b k : Nat} {vs : List Value} (w : World) (hag : tyAg P t ag = true) (hsz : tySz P t sz = true) (hl : vs.length = sz) (hat : At w b k vs) :
    (ag = true → (loadVar t ⟨b, k, none⟩).run P w = .ok (.agg vs.toArray) w) ∧ (ag = false → ∀ u, vs = [u] → (loadVar t ⟨b, k, none⟩).run P w = .ok u w) := by
  obtain ⟨i, hi, his⟩ := tySz_info hsz
  constructor
  · rintro rfl
    have := run_loadCells_list (P := P) (w := w) ⟨b, k, none⟩ vs (fun j v hv => by rw [Addr.add_lit]; exact hat j v hv)
    simp [loadVar, tyAg_run hag, sizeOf, typeInfo, hi, his, ← hl, this]
  · rintro rfl u rfl
    have := hat 0 u rfl
    simp [loadVar, tyAg_run hag]
    simp only [Nat.add_zero] at this
    simp [this]

theorem load_rel (h : SR N s a E Fe) {t : TypeId} {x : Operand} {x' : Opd} {sz : Nat} {ag : Bool} (ho : o.op = .load t x)
    (hag : tyAg P t ag = true) (hsz : tySz P t sz = true) (hx : opdOk x x' = true) {v : V} (hq : loadV s.H (ev s.T x') sz ag = some v) : ∃ v', (∀ w, w = E.w → (execOp a.eval o).run P w = .ok (.value v') w) ∧ RelV E v v' := by
  have h1 := opdOk_rel hx h.tmps
  have key : ∀ {b k : Nat} {ys : List C} {vs : List Value}, a.eval x = .pointer (some ⟨b, k, none⟩) → At E.w b k vs → RelL E g0 ys vs [] → vs.length = sz → mkV ag ys = some v →
      ∃ v', (∀ w, w = E.w → (execOp a.eval o).run P w = .ok (.value v') w) ∧ RelV E v v' := by
    intro b k ys vs hv hat hr hl hm
    have hrun := run_loadVar (P := P) E.w hag hsz hl hat
    rcases mkV_rel hm hr with ⟨ha, hv2⟩ | ⟨ha, u, hu, hv2⟩
    · exact ⟨_, fun w hw => by subst hw; simp [execOp, ho, hv, Instr.loadAt, Instr.sureAddr, hrun.1 ha], hv2⟩
    · exact ⟨u, fun w hw => by subst hw; simp [execOp, ho, hv, Instr.loadAt, Instr.sureAddr, hrun.2 ha u hu], hv2⟩
  unfold loadV at hq
  split at hq
  · rename_i e p off hp
    rw [hp] at h1
    dsimp only [RelV, Rel] at h1
    obtain ⟨_, ha, hv⟩ := h1
    split at hq
    · rename_i xs hg
      split at hq
      · rename_i ys hc
        unfold getN at hg
        split at hg
        · rename_i zs hz
          obtain ⟨Fy, hn, _⟩ := node_walk (h.node e zs hz ha) hg
          obtain ⟨vs, F', _, hb, hlen, hat, hr⟩ := hn
          obtain ⟨vs1, vs2, vs3, F1, F2, F3, rfl, hl1, _, _, hr2, _⟩ := hr.cut hc
          have hat2 := hat.mid
          rw [hl1] at hat2
          refine key (by rw [hv]; simp) hat2 (RelL.looks ha (fun i q => by simp) hr2) ?_ hq
          rw [hr2.length, (cut_some hc).2]
          have := (cut_some hc).1
          simp; omega
        · cases hg
      · cases hq
    · cases hq
  · rename_i fl xs off hp
    rw [hp] at h1
    dsimp only [RelV, Rel] at h1
    obtain ⟨_, b, k, vs, hv, hz, hat, hr⟩ := h1
    split at hq
    · rename_i ys hc
      obtain ⟨vs1, vs2, vs3, F1, F2, F3, rfl, hl1, hF, _, hr2, _⟩ := hr.cut hc
      obtain ⟨rfl, hF'⟩ := List.append_eq_nil_iff.1 hF.symm
      obtain ⟨rfl, rfl⟩ := List.append_eq_nil_iff.1 hF'
      have hat2 := hat.mid
      rw [hl1] at hat2
      refine key hv hat2 hr2.flat_of_nil ?_ hq
      rw [hr2.length, (cut_some hc).2]
      have := (cut_some hc).1
      simp; omega
    · cases hq
  · cases hq

/-- A new row of cells is a new event. -/
theorem SR.row (h : SR N s a E Fe) {i : Id} (hi : ¬ E.Al i) {xs : List C} {vs : List Value} {g : Nat → List Nat → Key} {F' : List Nat} (hr : RelL E g xs vs F') (hF : F'.Nodup)
    (hdj : ∀ b ∈ F', (∀ e, b ∉ Fe e) ∧ b < E.w.heap.size ∧ ∀ fl, ¬ E.Z fl b) {cs : Array Value} {t : TypeId} {w' : World} (hw : w'.heap = E.w.heap.push (.cells cs t (0, 0)))
    (hcs : ∀ (j : Nat) (v : Value), vs[j]? = some v → cs[j]? = some v) (hlen : vs.length ≤ cs.size) (hos : w'.os = E.w.os) (htp : w'.tape = E.w.tape) (hout : w'.output = E.w.output) :
    ∃ E', E'.w = w' ∧ E'.G i [] = (E.w.heap.size, 0, cs.size) ∧ (∀ e, E'.Al e ↔ E.Al e ∨ e = i) ∧ SR N { s with H := upd s.H i (some xs) } a E' (upd Fe i (E.w.heap.size :: F')) ∧
      E.Keeps E' ∧ E'.Z = E.Z ∧ E'.X = E.X ∧ E.w.heap.size ≤ E'.w.heap.size ∧ (∀ b, b < E.w.heap.size → E'.w.heap[b]? = E.w.heap[b]?) ∧ E'.w.os = E.w.os ∧ E'.w.tape = E.w.tape ∧ E'.w.output = E.w.output := by
  have hold : ∀ b, b < E.w.heap.size → w'.heap[b]? = E.w.heap[b]? := fun b hb => by rw [hw, Array.getElem?_push, if_neg (by omega)]
  have hnew : w'.heap[E.w.heap.size]? = some (.cells cs t (0, 0)) := by rw [hw, Array.getElem?_push, if_pos rfl]
  have hsz : w'.heap.size = E.w.heap.size + 1 := by rw [hw, Array.size_push]
  let E' : Env := { w := w', Z := E.Z, G := upd E.G i (fun q => match q with | [] => (E.w.heap.size, 0, cs.size) | j :: q => g j q), Al := fun e => E.Al e ∨ e = i, X := E.X }
  have hk : E.Keeps E' := by
    refine ⟨fun fl b hz => ⟨hz, hold b (h.zlt fl b hz)⟩, fun e p hae => ?_, fun e hae => .inl hae, fun _ _ hx => hx⟩
    have : e ≠ i := fun he => hi (he ▸ hae)
    show upd E.G i _ e p = _
    rw [upd_ne _ _ this]
  have hG : E'.G i = fun q => match q with | [] => (E.w.heap.size, 0, cs.size) | j :: q => g j q := upd_same _ _ _
  have hnode : NodeAt E' (E'.G i) xs (E.w.heap.size :: F') := by
    rw [hG]
    refine ⟨vs, F', rfl, ⟨cs, t, hnew, by simp, fun k _ _ hx => Nat.lt_irrefl _ (h.xlt _ k hx)⟩, ?_, ?_, ?_⟩
    · rw [← hr.length]; exact hlen
    · intro j v hv
      show w'.cell? ⟨E.w.heap.size, 0 + j, none⟩ = some v
      simp [World.cell?, hnew, hcs j v hv]
    · exact RelL.mono xs ⟨hk, fun b hb => hold b (hdj b hb).2.1⟩ hr
  refine ⟨E', rfl, by rw [hG], fun e => Iff.rfl, ?_, hk, rfl, rfl, by show _ ≤ w'.heap.size; omega, hold, hos, htp, hout⟩
  refine h.add (E' := E') hi hk rfl (fun e => Iff.rfl) (by show _ ≤ w'.heap.size; omega) (fun e b hb => hold b (h.size e b hb)) hnode ?_ ?_
  · refine List.nodup_cons.2 ⟨fun hm => ?_, hF⟩
    have := (hdj _ hm).2.1
    omega
  · intro b hb
    rcases List.mem_cons.1 hb with rfl | hb
    · exact ⟨fun e he => Nat.lt_irrefl _ (h.size e _ he), by show _ < w'.heap.size; omega, fun fl hz => Nat.lt_irrefl _ (h.zlt fl _ hz)⟩
    · exact ⟨(hdj b hb).1, by show _ < w'.heap.size; have := (hdj b hb).2.1; omega, (hdj b hb).2.2⟩

theorem step_load (h : SR N s a E Fe) (hd : ∀ t, d = some t → t < N) (hod : o.dst = d) {t : TypeId} {x : Operand} {x' : Opd} {sz : Nat} {ag : Bool} (ho : o.op = .load t x)
    (hag : tyAg P t ag = true) (hsz : tySz P t sz = true) (hx : opdOk x x' = true) {v : V} (hq : loadV s.H (ev s.T x') sz ag = some v) {new : Id → Prop} (hnew : ∀ e, ¬ new e)
    (hs : s' = { s with T := putT s.T d v }) : StepOK P N o a E Fe s' new := by
  obtain ⟨u, hu, hr⟩ := load_rel h ho hag hsz hx hq
  subst hs
  exact ⟨u, E, Fe, .inl (hu E.w rfl), by rw [hod]; exact h.put hd hr, .refl E Fe, fun e => ⟨.inl, fun hh => hh.resolve_right (hnew e)⟩⟩

/-- A step that makes one row of cells that owns nothing else. -/
theorem step_row (h : SR N s a E Fe) (hd : ∀ t, d = some t → t < N) (hod : o.dst = d) {i : Id} (hi : ¬ E.Al i) {xs : List C} {vs : List Value} (hr : RelL E g0 xs vs [])
    {cs : Array Value} {t : TypeId} {w' : World} (hw : w'.heap = E.w.heap.push (.cells cs t (0, 0))) (hcs : ∀ (j : Nat) (v : Value), vs[j]? = some v → cs[j]? = some v) (hlen : vs.length ≤ cs.size)
    (hos : w'.os = E.w.os) (htp : w'.tape = E.w.tape) (hout : w'.output = E.w.output) {u : Value} (hu : Does P o a E.w u w') {v : V}
    (hv : ∀ E' : Env, E'.Al i → E'.G i [] = (E.w.heap.size, 0, cs.size) → RelV E' v u) (hs : s' = { s with T := putT s.T d v, H := upd s.H i (some xs) }) :
    StepOK P N o a E Fe s' (fun e => e = i) := by
  subst hs
  obtain ⟨E', rfl, hG, hal, hSR, hk, hZ, hX, hsz, hold, h1, h2, h3⟩ := h.row hi hr List.nodup_nil (by simp) hw hcs hlen hos htp hout
  refine ⟨u, E', upd Fe i [E.w.heap.size], hu, ?_, Grow.of_old h.xlt hk hZ hX hsz hold (fun e b hb => ?_) h1 h2 h3, hal⟩
  · rw [hod]
    exact hSR.put hd (hv E' ((hal i).2 (.inr rfl)) hG)
  · by_cases hei : e = i
    · subst hei
      simp only [upd_same, List.mem_singleton] at hb
      exact .inr (Nat.le_of_eq hb.symm)
    · rw [upd_ne _ _ hei] at hb
      exact .inl ⟨e, hb⟩

theorem constsOk_rel {g : Nat → List Nat → Key} : ∀ {vs : List Value} {xs : List C}, (vs.length == xs.length && (vs.zip xs).all fun p => constOk p.1 p.2) = true → RelL E g xs vs []
  | [], [], _ => by simp [RelL]
  | v :: vs, x :: xs, h => by
    simp only [List.length_cons, List.zip_cons_cons, List.all_cons, Bool.and_eq_true, beq_iff_eq, Nat.add_right_cancel_iff] at h
    simp only [RelL]
    refine ⟨v, vs, [], [], rfl, rfl, ?_, constsOk_rel (by simp [h.1, h.2.2])⟩
    have h1 := opdOk_rel (E := E) (T := fun _ => .c .dead) (a := ⟨#[], []⟩) (x := .const v) (y := .k x) h.2.1 (fun t => by simp [RelV, Rel])
    exact (Rel.flat (by cases x <;> simp_all [constOk, Abs.flat]) h1).2
  | [], _ :: _, h => by simp at h
  | _ :: _, [], h => by simp at h

/-- The cells of a type's zero value. -/
def zeroOk (P : Program) (t : TypeId) (xs : List C) : Bool :=
  match P.info? t with
  | some i => match i.zero with
    | some z => z.cells.toList.length == xs.length && (z.cells.toList.zip xs).all fun p => constOk p.1 p.2
    | none => false
  | none => false

theorem zeroOk_rel {g : Nat → List Nat → Key} {t : TypeId} {xs : List C} (h : zeroOk P t xs = true) : ∃ i z, P.info? t = some i ∧ i.zero = some z ∧ RelL E g xs z.cells.toList [] := by
  unfold zeroOk at h
  split at h
  · rename_i i hi
    split at h
    · rename_i z hz
      exact ⟨i, z, hi, hz, constsOk_rel h⟩
    · cases h
  · cases h

theorem step_box (h : SR N s a E Fe) (hd : ∀ t, d = some t → t < N) (hod : o.dst = d) {t : TypeId} {x : Operand} {x' : Opd} (ho : o.op = .box t x) (hx : opdOk x x' = true)
    {i : Id} (hi : ¬ E.Al i) {vs : List C} (hc : cellsV (ev s.T x') = some vs) (hl : vs.all lies = true)
    (hs : s' = { s with T := putT s.T d (.c (.ptr i [] 0)), H := upd s.H i (some vs) }) : StepOK P N o a E Fe s' (fun e => e = i) := by
  have hr := cellsV_rel hc hl (opdOk_rel hx h.tmps)
  refine step_row h hd hod hi hr (cs := (a.eval x).cells) (t := t) (w' := { E.w with heap := E.w.heap.push (.cells (a.eval x).cells t) }) rfl (fun j v hv => by simpa using hv) (by simp) rfl rfl rfl
    (u := .pointer (some ⟨E.w.heap.size, 0, none⟩)) (.inl ?_) (fun E' hA hG => ?_) hs
  · simp [execOp, ho, Instr.box, newVar, newRow]
  · dsimp only [RelV, Rel]
    exact ⟨rfl, hA, by rw [hG]⟩

theorem step_alloc (h : SR N s a E Fe) (hd : ∀ t, d = some t → t < N) (hod : o.dst = d) {t : TypeId} (ho : o.op = .alloc t) {zero : List C} (hz : zeroOk P t zero = true)
    {i : Id} (hi : ¬ E.Al i) (hs : s' = { s with T := putT s.T d (.c (.ptr i [] 0)), H := upd s.H i (some zero) }) : StepOK P N o a E Fe s' (fun e => e = i) := by
  obtain ⟨inf, z, hinf, hzz, hr⟩ := zeroOk_rel (E := E) (g := g0) hz
  refine step_row h hd hod hi hr (cs := z.cells) (t := t) (w' := { E.w with heap := E.w.heap.push (.cells z.cells t) }) rfl (fun j v hv => by simpa using hv) (by simp) rfl rfl rfl
    (u := .pointer (some ⟨E.w.heap.size, 0, none⟩)) (.inl ?_) (fun E' hA hG => ?_) hs
  · simp [execOp, ho, Instr.alloc, zeroValue, typeInfo, hinf, hzz, newVar, newRow]
  · dsimp only [RelV, Rel]
    exact ⟨rfl, hA, by rw [hG]⟩

/-- Zero cells, over and over. -/
theorem rep_rel {zero : List C} {z : Array Value} (hr : RelL E g0 zero z.toList []) : ∀ n, RelL E g0 (rep n zero) (List.replicate n z.toList).flatten []
  | 0 => by simp [rep, RelL]
  | n + 1 => by
    have h1 := rep_rel hr n
    simp only [rep, List.replicate_succ, List.flatten_cons] at h1 ⊢
    have := hr.append (ys := (List.replicate n zero).flatten) (vs2 := (List.replicate n z.toList).flatten) (F2 := []) (h1.flat_of_nil)
    simpa using this

theorem rep_cells (z : Array Value) : ∀ n, ((Array.range (n * z.size)).map (z[· % z.size]!)).toList = (List.replicate n z.toList).flatten
  | 0 => by simp
  | n + 1 => by
    apply List.ext_getElem?
    intro j
    have ih := rep_cells z n
    rw [List.replicate_succ', List.flatten_append, ← ih]
    simp only [List.flatten_cons, List.flatten_nil, List.append_nil]
    rw [List.getElem?_append]
    simp only [Array.toList_map, Array.toList_range, List.length_map, List.length_range, List.getElem?_map, List.getElem?_range']
    by_cases hj : j < n * z.size
    · rw [if_pos hj]
      have : j < (n + 1) * z.size := by rw [Nat.succ_mul]; omega
      simp [List.getElem?_range, hj, this]
    · rw [if_neg hj]
      by_cases hj2 : j < (n + 1) * z.size
      · have hlt : j - n * z.size < z.size := by rw [Nat.succ_mul] at hj2; omega
        have hmod : j % z.size = j - n * z.size := by
          have h1 : j = z.size * n + (j - n * z.size) := by rw [Nat.mul_comm z.size n]; omega
          calc j % z.size = (z.size * n + (j - n * z.size)) % z.size := by rw [← h1]
            _ = (j - n * z.size) % z.size := Nat.mul_add_mod _ _ _
            _ = j - n * z.size := Nat.mod_eq_of_lt hlt
        simp [List.getElem?_range, hj2, hmod, hlt]
      · have : z.size ≤ j - n * z.size := by rw [Nat.succ_mul] at hj2; omega
        simp [List.getElem?_eq_none, this, show (n + 1) * z.size ≤ j by omega]

theorem step_bslice (h : SR N s a E Fe) (hd : ∀ t, d = some t → t < N) (hod : o.dst = d) {t e : TypeId} {n sz : Nat} {zero : List C} {ps : Array (Nat × Operand)} {qs : List (Nat × Nat × Opd)}
    (ho : o.op = .buildSlice t n ps) (ht : P.underlying t = some (.slice e)) (hsz : tySz P e sz = true) (hz : zeroOk P e zero = true) (hzl : zero.length = sz) (hp : partsOk (fun i => some (i * sz, sz)) ps.toList qs = true)
    {i : Id} (hi : ¬ E.Al i) {cs : List C} (hn : n * sz ≤ 2 ^ 24) (hf : fillC s.T (rep n zero) qs = some cs)
    (hs : s' = { s with T := putT s.T d (.c (.ref i [] sz 0 n)), H := upd s.H i (some cs) }) : StepOK P N o a E Fe s' (fun e => e = i) := by
  obtain ⟨inf, z, hinf, hzz, hr⟩ := zeroOk_rel (E := E) (g := g0) hz
  obtain ⟨inf', hinf', hsz'⟩ := tySz_info hsz
  rw [hinf] at hinf'
  cases hinf'
  have hzs : z.cells.size = sz := by rw [← Array.length_toList, hr.length, hzl]
  have hrr := rep_rel hr n
  rw [← rep_cells, hzs] at hrr
  obtain ⟨vs', hfill, hr'⟩ := fill_rel (place := fun i => some (i * sz, sz)) h.tmps hp hf hrr
  have hlen : vs'.length = n * sz := by
    have hl1 : ∀ (qs : List (Nat × Nat × Opd)) (c1 c2 : List C), fillC s.T c1 qs = some c2 → c2.length = c1.length := by
      intro qs
      induction qs with
      | nil => intro c1 c2 hh; simp only [fillC, Option.some.injEq] at hh; rw [hh]
      | cons q qs ih =>
        obtain ⟨off, sq, y⟩ := q
        intro c1 c2 hh
        simp only [fillC] at hh
        split at hh
        · split at hh
          · split at hh
            · rename_i hw
              rw [ih _ _ hh, wr_length hw]
            · cases hh
          · cases hh
        · cases hh
    rw [hr'.length, hl1 _ _ _ hf, ← hrr.length]
    simp
  refine step_row h hd hod hi hr' (cs := vs'.toArray) (t := e) (w' := { E.w with heap := E.w.heap.push (.cells vs'.toArray e) }) rfl (fun j v hv => by simpa using hv) (by simp) rfl rfl rfl
    (u := .slice (some ⟨E.w.heap.size, 0, none⟩) n n) (.inl ?_) (fun E' hA hG => ?_) hs
  · have hsm : ¬ 2 ^ 24 < n * inf.size := by rw [hsz']; omega
    have hf2 : Instr.fill (fun i => some (i * sz, sz)) ((Array.range (n * sz)).map (z.cells[· % z.cells.size]!)) (ps.map fun (i, x) => (i, a.eval x)).toList = some vs'.toArray := by
      rw [hzs]
      rw [Array.toArray_toList] at hfill
      rw [Array.toList_map]
      exact hfill
    by_cases h0 : n * sz = 0
    · rw [h0] at hf2
      have hr0 : Array.range 0 = #[] := rfl
      rw [hr0, Array.map_empty] at hf2
      simp only [execOp, ho, Instr.buildSlice]
      simp [run_underlying ht, sizeOf, typeInfo, zeroValue, hinf, hsz', hzz, h0, newRow, hr0]
      simp at hf2
      rw [hf2]
      simp
    · have hsm' : ¬ 16777216 < n * sz := by omega
      simp only [execOp, ho]
      have := run_buildSlice (P := P) E.w t e n (ps.map fun (i, x) => (i, a.eval x)) vs'.toArray inf z ht hinf hzz hsm (by rw [hsz']; exact h0) (by rw [hsz']; exact hf2)
      simp [this]
  · dsimp only [RelV, Rel]
    refine ⟨rfl, hA, 0, n, by rw [hG], Nat.le_refl _, .inr (by rw [hG]), .inr (by rw [hG]; simp [hlen]), Nat.zero_le _⟩

theorem step_mks (h : SR N s a E Fe) (hd : ∀ t, d = some t → t < N) (hod : o.dst = d) {t e : TypeId} {sz bytes : Nat} {zero : List C} {x y : Operand} {x' y' : Opd}
    (ho : o.op = .makeSlice t x y) (ht : P.underlying t = some (.slice e)) (hsz : tySz P e sz = true) (hby : ∀ i, P.info? e = some i → i.bytes = bytes) (hz : zeroOk P e zero = true) (hzl : zero.length = sz)
    (hx : opdOk x x' = true) (hy : opdOk y y' = true)
    {i : Id} (hi : ¬ E.Al i) {l : Int} (h1 : ev s.T x' = .c (.int .i64 l)) (h2 : ev s.T y' = .c (.int .i64 l)) (hl0 : 0 ≤ l) (hlb : l * bytes ≤ 2 ^ 46) (hl63 : l ≤ 2 ^ 62)
    (hs : s' = { s with T := putT s.T d (.c (.ref i [] sz 0 l.toNat)), H := upd s.H i (some (rep l.toNat zero)) }) : StepOK P N o a E Fe s' (fun e => e = i) := by
  obtain ⟨inf, z, hinf, hzz, hr⟩ := zeroOk_rel (E := E) (g := g0) hz
  obtain ⟨inf', hinf', hsz'⟩ := tySz_info hsz
  rw [hinf] at hinf'
  cases hinf'
  have hzs : z.cells.size = sz := by rw [← Array.length_toList, hr.length, hzl]
  have hrr := rep_rel hr l.toNat
  rw [← rep_cells, hzs] at hrr
  have e1 := opdOk_rel hx h.tmps
  have e2 := opdOk_rel hy h.tmps
  rw [h1] at e1
  rw [h2] at e2
  dsimp only [RelV, Rel] at e1 e2
  refine step_row h hd hod hi hrr (cs := madeCells z.cells (l.toNat * sz)) (t := e) (w' := { E.w with heap := E.w.heap.push (.cells (madeCells z.cells (l.toNat * sz)) e) }) rfl
    (fun j v hv => by rw [← Array.getElem?_toList]; simpa [madeCells, hzs] using hv) (by simp [madeCells]) rfl rfl rfl
    (u := .slice (some ⟨E.w.heap.size, 0, none⟩) l.toNat l.toNat) (.inl ?_) (fun E' hA hG => ?_) hs
  · have hb := hby inf hinf
    have := run_make (P := P) E.w t e inf z ht hinf hzz .i64 .i64 l l hl0 (Int.le_refl _) (by rw [hb, Int.mul_comm]; omega) (by omega)
    rw [hsz'] at this
    simp [execOp, ho, e1.1, e2.1, this]
  · dsimp only [RelV, Rel]
    refine ⟨rfl, hA, 0, l.toNat, by rw [hG], Nat.le_refl _, .inr (by rw [hG]), .inr (by rw [hG]; simp [madeCells]), Nat.zero_le _⟩

end
end Go.Proofs.Ytgodaiiegcdpcaa.Abs
end
section
set_option linter.unusedVariables false
set_option linter.unusedSimpArgs false
namespace Go.Proofs.Ytgodaiiegcdpcaa.Abs

theorem At.get {w : World} {b o : Nat} {vs : List Value} {c : Array Value} {t : TypeId} {fr : Nat × Nat} (hg : w.heap[b]? = some (.cells c t fr)) (h : At w b o vs) {i : Nat} {v : Value} (hv : vs[i]? = some v) : c[o + i]? = some v := by
  have := h i v hv
  simpa [World.cell?, hg] using this

theorem At.fits {w : World} {b o : Nat} {vs : List Value} {c : Array Value} {t : TypeId} {fr : Nat × Nat} (hg : w.heap[b]? = some (.cells c t fr)) (h : At w b o vs) {i : Nat} (hi : i < vs.length) : o + i < c.size := by
  have := h.get hg (List.getElem?_eq_getElem hi)
  exact (Array.getElem?_eq_some_iff.1 this).1

/-- What lies at a place behind a row's cells were written anew. -/
theorem At.setRow {w : World} {b o off : Nat} {vs ws : List Value} {c : Array Value} {t : TypeId} {fr : Nat × Nat} (hg : w.heap[b]? = some (.cells c t fr)) (h : At w b o vs) (hl : off ≤ vs.length) (hfit : o + off + ws.length ≤ c.size) :
    At (w.setRow b (c.toList.take (o + off) ++ ws ++ c.toList.drop (o + off + ws.length)).toArray) b o (vs.take off ++ ws ++ vs.drop (off + ws.length)) := by
  intro i v hv
  rw [cell_setRow_same w b (o + i) c _ t fr hg]
  simp only [List.getElem?_toArray]
  have hlen1 : (vs.take off).length = off := by simp; omega
  have hlen2 : (c.toList.take (o + off)).length = o + off := by simp; omega
  rw [List.append_assoc] at hv ⊢
  by_cases h1 : i < off
  · rw [List.getElem?_append_left (by omega), List.getElem?_take_of_lt h1] at hv
    rw [List.getElem?_append_left (by omega), List.getElem?_take_of_lt (by omega), Array.getElem?_toList]
    exact h.get hg hv
  · rw [List.getElem?_append_right (by omega), hlen1] at hv
    rw [List.getElem?_append_right (by omega), hlen2]
    have e1 : o + i - (o + off) = i - off := by omega
    rw [e1]
    by_cases h2 : i - off < ws.length
    · rw [List.getElem?_append_left h2] at hv ⊢
      exact hv
    · rw [List.getElem?_append_right (by omega), List.getElem?_drop] at hv ⊢
      have e2 : off + ws.length + (i - off - ws.length) = i := by omega
      have e3 : o + off + ws.length + (i - off - ws.length) = o + i := by omega
      rw [e2] at hv
      rw [e3, Array.getElem?_toList]
      exact h.get hg hv

theorem setRow_cell_out {w : World} {g off k : Nat} {ws : List Value} {c : Array Value} {t : TypeId} {fr : Nat × Nat} (hg : w.heap[g]? = some (.cells c t fr)) (hfit : off + ws.length ≤ c.size)
    (hk : k < off ∨ off + ws.length ≤ k) : (w.setRow g (c.toList.take off ++ ws ++ c.toList.drop (off + ws.length)).toArray).cell? ⟨g, k, none⟩ = w.cell? ⟨g, k, none⟩ := by
  rw [cell_setRow_same w g k c _ t fr hg]
  have e0 : w.cell? ⟨g, k, none⟩ = c[k]? := by simp [World.cell?, hg]
  rw [e0]
  simp only [List.getElem?_toArray, List.append_assoc]
  have hlen : (c.toList.take off).length = off := by simp; omega
  rcases hk with hk | hk
  · rw [List.getElem?_append_left (by omega), List.getElem?_take_of_lt hk, Array.getElem?_toList]
  · rw [List.getElem?_append_right (by omega), hlen, List.getElem?_append_right (by omega), List.getElem?_drop, Array.getElem?_toList]
    congr 1; omega

theorem setRow_shape {w : World} {g : Nat} {cs c : Array Value} {t : TypeId} {fr : Nat × Nat} (hg : w.heap[g]? = some (.cells c t fr)) (hs : cs.size = c.size) (b : Nat) (c1 : Array Value) (t1 : TypeId) (fr1 : Nat × Nat)
    (hb : w.heap[b]? = some (.cells c1 t1 fr1)) : ∃ c' : Array Value, (w.setRow g cs).heap[b]? = some (.cells c' t1 fr1) ∧ c'.size = c1.size := by
  by_cases hbg : b = g
  · subst hbg
    rw [hg] at hb
    cases hb
    exact ⟨cs, setRow_heap w b c cs t fr hg, hs⟩
  · exact ⟨c1, (setRow_other w g b cs hbg).trans hb, rfl⟩

section
variable {P : Program} {N : Nat} {s s' : St} {a : Act} {E : Env} {Fe : Id → List Nat} {o : Oper} {d : Option Nat}

theorem step_store (h : SR N s a E Fe) (hd : ∀ t, d = some t → t < N) (hod : o.dst = d) {t : TypeId} {x y : Operand} {x' y' : Opd} {sz : Nat} (ho : o.op = .store t x y)
    (hsz : tySz P t sz = true) (hx : opdOk x x' = true) (hy : opdOk y y' = true) {H' : Heap} (hq : storeV s.H (ev s.T x') (ev s.T y') sz = some H') {new : Id → Prop} (hnew : ∀ e, ¬ new e)
    (hs : s' = { s with T := putT s.T d (.c .dead), H := H' }) : StepOK P N o a E Fe s' new := by
  have h1 := opdOk_rel hx h.tmps
  have h2 := opdOk_rel hy h.tmps
  obtain ⟨inf, hinf, hsi⟩ := tySz_info hsz
  unfold storeV at hq
  split at hq
  · rename_i e p off us hp hus
    split at hq
    · rename_i hc
      rw [hp] at h1
      dsimp only [RelV, Rel] at h1
      obtain ⟨_, ha, hv⟩ := h1
      have hws := cellsV_rel hus hc.2 h2
      generalize hws' : (a.eval y).cells.toList = ws at hws
      have hone : ∀ u ∈ ws, u.oneCell' = true := lies_all hc.2 hws
      have hwl : ws.length = sz := by rw [hws.length, hc.1]
      obtain ⟨ys, ys', Fy, hg, hf, hn, hsub, K⟩ := h.turn (E' := { E with w := E.w.setRow (E.G e p).1 #[] }) (fun _ _ => wr_length) ha hq
      clear K
      obtain ⟨vs, F', rfl, ⟨c, ct, hblk, hcs, hcx⟩, hle, hat, hr⟩ := hn
      simp only [List.append_nil] at hblk hcs hcx hat hle hsub
      obtain ⟨hle2, _⟩ := wr_some hf
      have hfit : (E.G e p).2.1 + off + ws.length ≤ c.size := by rw [hws.length]; omega
      have hst := run_storeCells_at P (E.G e p).1 ((E.G e p).2.1 + off) ct ws 0 c E.w hblk (by simpa using hfit) hone
      simp only [Nat.add_zero] at hst
      generalize hw' : E.w.setRow (E.G e p).1 (c.toList.take ((E.G e p).2.1 + off) ++ ws ++ c.toList.drop ((E.G e p).2.1 + off + ws.length)).toArray = w' at hst
      let E' : Env := { E with w := w' }
      have hbF : (E.G e p).1 ∈ Fe e := hsub.subset (by simp)
      have hother : ∀ b, b ≠ (E.G e p).1 → w'.heap[b]? = E.w.heap[b]? := fun b hb => by rw [← hw']; exact setRow_other _ _ _ _ hb
      have hk : E.Keeps E' := ⟨fun fl b hz => ⟨hz, hother b (fun e1 => h.zone fl b hz e (e1 ▸ hbF))⟩, fun _ _ _ => rfl, fun _ hh => hh, fun _ _ hx => hx⟩
      obtain ⟨ys2, ys2', Fy2, hg2, hf2, hn2, hsub2, K⟩ := h.turn (E' := E') (fun _ _ => wr_length) ha hq
      rw [hg] at hg2
      cases hg2
      rw [hf] at hf2
      cases hf2
      obtain ⟨vs2, F2, rfl, hb2, hle3, hat2, hr2⟩ := hn2
      simp only [List.append_nil] at hat2 hb2 hle3 hsub2 K
      obtain ⟨F3, hF3, hr3, hle4⟩ := hr2.wr hf (all_flat hc.2) hws
      have hnd : ((E.G e p).1 :: F2).Nodup := hsub2.nodup (h.nodup e)
      have hnode' : NodeAt E' (fun r => E.G e (p ++ r)) ys' ((E.G e p).1 :: F3) := by
        refine ⟨_, F3, by simp, ?_, ?_, ?_, RelL.mono ys' ⟨hk, fun b hb => hother b (fun e1 => (List.nodup_cons.1 hnd).1 (e1 ▸ hF3.subset hb))⟩ hr3⟩
        · simp only [List.append_nil]
          refine ⟨_, ct, by show w'.heap[_]? = _; rw [← hw']; exact setRow_heap _ _ c _ ct (0, 0) hblk, ?_⟩
          refine ⟨by simp; omega, fun k q1 q2 hx => hcx k q1 q2 hx⟩
        · simp only [List.append_nil]
          rw [wr_length hf]; exact hle
        · simp only [List.append_nil]
          rw [← hws.length]
          show At w' _ _ _
          rw [← hw']
          exact hat2.setRow hblk (by rw [hr2.length]; omega) hfit
      obtain ⟨F', hF', hm, hSR⟩ := K ((E.G e p).1 :: F3) hk rfl (fun _ => Iff.rfl) (by show _ ≤ w'.heap.size; rw [← hw']; simp) (fun b hb _ => hother b hb) (hF3.cons_cons _) hnode'
      subst hs
      refine ⟨undef, E', upd Fe e F', .inr ⟨?_, rfl⟩, ?_, ⟨hk, rfl, by show _ ≤ w'.heap.size; rw [← hw']; simp, fun b hb hb2 => hother b (fun e1 => hb2 e (e1 ▸ hbF)), fun e2 b hb => ?_, ?_, ?_, ?_, fun b k hx => ?_, ?_, rfl⟩, fun e2 => ⟨.inl, fun hh => hh.resolve_right (hnew e2)⟩⟩
      · have hsize : (a.eval y).cells.size = sz := by rw [← Array.length_toList, hws', hwl]
        show (execOp a.eval o).run P E.w = .ok .skip w'
        simp [execOp, ho, hv, Instr.storeAt, Instr.sureAddr, storeVar, hsize, sizeOf, typeInfo, hinf, hsi, hws', hst]
      · rw [hod]
        exact hSR.put hd (by dsimp only [RelV, Rel])
      · by_cases hei : e2 = e
        · subst hei
          simp only [upd_same] at hb
          exact .inl ⟨e2, hF'.subset hb⟩
        · rw [upd_ne _ _ hei] at hb
          exact .inl ⟨e2, hb⟩
      · show w'.os = _; rw [← hw']; rfl
      · show w'.tape = _; rw [← hw']; rfl
      · show w'.output = _; rw [← hw']; rfl
      · show w'.cell? _ = _
        by_cases hbe : b = (E.G e p).1
        · subst hbe
          rw [← hw']
          refine setRow_cell_out hblk hfit ?_
          by_cases q1 : k < (E.G e p).2.1 + off
          · exact .inl q1
          · by_cases q2 : (E.G e p).2.1 + off + ws.length ≤ k
            · exact .inr q2
            · exact absurd hx (hcx k (by omega) (by rw [hws.length] at q2; omega))
        · exact World.cell?_of_block (hother b hbe)
      · intro b c1 t1 fr1 hb
        show ∃ c', w'.heap[b]? = _ ∧ _
        rw [← hw']
        exact setRow_shape hblk (by simp; omega) b c1 t1 fr1 hb
    · cases hq
  · cases hq

end
end Go.Proofs.Ytgodaiiegcdpcaa.Abs
end
section
set_option linter.unusedVariables false
set_option linter.unusedSimpArgs false
namespace Go.Proofs.Ytgodaiiegcdpcaa.Abs
section
variable {P : Program} {N : Nat} {s s' : St} {a : Act} {E : Env} {Fe : Id → List Nat} {o : Oper} {d : Option Nat}

theorem RelL.congr : ∀ {xs : List C} {g g' : Nat → List Nat → Key} {vs : List Value} {F : List Nat}, RelL E g xs vs F → (∀ j, j < xs.length → g j = g' j) → RelL E g' xs vs F
  | [], _, _, _, _, r, _ => by simpa only [RelL] using r
  | x :: xs, g, g', vs, F, r, h => by
    simp only [RelL] at r ⊢
    obtain ⟨v, vs', F1, F2, rfl, rfl, h1, h2⟩ := r
    exact ⟨v, vs', F1, F2, rfl, rfl, by rw [← h 0 (by simp)]; exact h1, h2.congr (fun j hj => h (j + 1) (by simpa using hj))⟩

theorem RelL.join {xs ys : List C} {g1 g2 : Nat → List Nat → Key} {vs ws : List Value} {F1 F2 : List Nat} (r1 : RelL E g1 xs vs F1) (r2 : RelL E g2 ys ws F2) :
    RelL E (fun j => if j < xs.length then g1 j else g2 (j - xs.length)) (xs ++ ys) (vs ++ ws) (F1 ++ F2) := by
  refine (r1.congr (fun j hj => by rw [if_pos hj])).append (r2.congr fun j _ => ?_)
  rw [if_neg (by omega), Nat.add_sub_cancel_left]

/-- Whole events taken in by a row. -/
theorem absorb_rel : ∀ {xs : List C} {s : St} {Fe : Id → List Nat} {vs : List Value}, SR N s a E Fe → RelL E g0 xs vs [] →
    ∃ g F Fe', RelL E g (absorb s.H xs).1 vs F ∧ F.Nodup ∧ (∀ b ∈ F, (∀ e, b ∉ Fe' e) ∧ ∃ e, b ∈ Fe e) ∧ (∀ e, (Fe' e).Sublist (Fe e)) ∧ SR N { s with H := (absorb s.H xs).2 } a E Fe'
  | [], s, Fe, vs, h, r => ⟨g0, [], Fe, by simpa only [absorb, RelL] using r, List.nodup_nil, by simp, fun _ => List.Sublist.refl _, h⟩
  | x :: xs, s, Fe, vs, h, r => by
    simp only [RelL] at r
    obtain ⟨v, vs', F1, F2, rfl, hF, h1, h2⟩ := r
    obtain ⟨rfl, rfl⟩ := List.append_eq_nil_iff.1 hF.symm
    have h2' : RelL E g0 xs vs' [] := h2.flat_of_nil
    have plain : absorb s.H (x :: xs) = (x :: (absorb s.H xs).1, (absorb s.H xs).2) →
        ∃ g F Fe', RelL E g (absorb s.H (x :: xs)).1 (v :: vs') F ∧ F.Nodup ∧ (∀ b ∈ F, (∀ e, b ∉ Fe' e) ∧ ∃ e, b ∈ Fe e) ∧ (∀ e, (Fe' e).Sublist (Fe e)) ∧ SR N { s with H := (absorb s.H (x :: xs)).2 } a E Fe' := by
      intro he
      rw [he]
      obtain ⟨g, F, Fe', r1, r2, r3, r4, r5⟩ := absorb_rel (xs := xs) h h2'
      refine ⟨fun j => match j with | 0 => g0 0 | j + 1 => g j, F, Fe', ?_, r2, r3, r4, r5⟩
      simp only [RelL]
      exact ⟨v, vs', [], F, rfl, rfl, h1, r1⟩
    by_cases hx : ∃ e sz n ys, x = .ref e [] sz 0 n ∧ s.H e = some ys ∧ ys.length = n * sz
    · obtain ⟨e, sz, n, ys, rfl, hy, hl⟩ := hx
      have he : absorb s.H (.ref e [] sz 0 n :: xs) = (.inl sz n ys :: (absorb (upd s.H e none) xs).1, (absorb (upd s.H e none) xs).2) := by
        rw [absorb]
        simp only [hy, hl, if_true]
      rw [he]
      dsimp only [Rel] at h1
      obtain ⟨_, ha, k, cap, rfl, hnc, hk, hcap, hko⟩ := h1
      obtain ⟨F0, Fe0, hnode, hsub0, hdis0, hsub, hSR⟩ := h.kill (H' := upd s.H e none) (p := []) (ys := ys) ha (by simp [getN, hy, walk]) (by simp [Abs.kill])
      obtain ⟨g, F, Fe', r1, r2, r3, r4, r5⟩ := absorb_rel (xs := xs) hSR h2'
      obtain ⟨vs0, F0', rfl, hb, hle, hat, hr⟩ := hnode
      simp only [List.nil_append] at hb hle hat hr hsub0 hdis0
      have hrel : Rel E (fun q => match q with | [] => ((E.G e []).1, k, cap * sz) | j :: q => E.G e (j :: q)) (.inl sz n ys) (.slice (some ⟨(E.G e []).1, k, none⟩) n cap) ((E.G e []).1 :: F0') := by
        dsimp only [Rel]
        refine ⟨hl, _, _, cap, vs0, F0', rfl, hnc, rfl, rfl, ?_, ?_, hr⟩
        · obtain ⟨c, ct, hc, hcs, hcx⟩ := hb
          refine ⟨c, ct, hc, ?_, fun j q1 q2 => ?_⟩
          · rcases hcap with h0 | h0
            · omega
            · rcases hk with h5 | h5 <;> omega
          · rcases hcap with h0 | h0
            · omega
            · rcases hk with h5 | h5
              · omega
              · exact hcx j (by omega) (by omega)
        · rcases hk with h0 | h0
          · have hn0 : n * sz ≤ cap * sz := Nat.mul_le_mul_right _ hnc
            have : vs0 = [] := by rw [← List.length_eq_zero_iff, hr.length]; omega
            subst this
            intro i v hv
            simp at hv
          · rw [h0]; exact hat
      refine ⟨fun j => match j with | 0 => (fun q => match q with | [] => ((E.G e []).1, k, cap * sz) | j :: q => E.G e (j :: q)) | j + 1 => g j, ((E.G e []).1 :: F0') ++ F, Fe', ?_, ?_, ?_, fun e2 => (r4 e2).trans (hsub e2), r5⟩
      · simp only [RelL]
        exact ⟨_, vs', _, F, rfl, rfl, hrel, r1⟩
      · refine List.nodup_append.2 ⟨hsub0.nodup (h.nodup e), r2, fun b hb b' hb' hbb => ?_⟩
        subst hbb
        obtain ⟨_, e2, he2⟩ := r3 b hb'
        exact hdis0 b hb e2 he2
      · intro b hb
        rcases List.mem_append.1 hb with hb | hb
        · exact ⟨fun e2 he2 => hdis0 b hb e2 ((r4 e2).subset he2), e, hsub0.subset hb⟩
        · obtain ⟨q1, e2, q2⟩ := r3 b hb
          exact ⟨q1, e2, (hsub e2).subset q2⟩
    · exact plain (by
        conv => lhs; unfold absorb
        split
        · rename_i e sz n
          split
          · rename_i ys hy
            split
            · rename_i hl
              exact absurd ⟨e, sz, n, ys, rfl, hy, hl⟩ hx
            · rfl
          · rfl
        · rfl)

theorem src_rel (h : SR N s a E Fe) {y : V} {yv : Value} {m sz : Nat} {ys : List C} (hq : srcCells s.H sz y = some (m, ys)) (hr : RelV E y yv) :
    ∃ news, RelL E g0 ys news [] ∧ news.length = m * sz ∧ (Builtin.lenOf yv).run P E.w = .ok m E.w ∧ ∀ w', w'.heap = E.w.heap → (Builtin.firstCells sz m yv).run P w' = .ok news.toArray w' := by
  have hcell : ∀ (w' : World) (ad : Addr), w'.heap = E.w.heap → w'.cell? ad = E.w.cell? ad := fun w' ad hw => World.cell?_of_block (by rw [hw])
  unfold srcCells at hq
  split at hq
  · simp only [Option.some.injEq, Prod.mk.injEq] at hq
    obtain ⟨rfl, rfl⟩ := hq
    dsimp only [RelV, Rel] at hr
    obtain ⟨rfl, _⟩ := hr
    exact ⟨[], by simp [RelL], by simp, by simp [Builtin.lenOf], fun w' _ => by simp [Builtin.firstCells]⟩
  · rename_i e p sz' lo n
    split at hq
    · rename_i hs
      subst hs
      split at hq
      · rename_i xs hg
        split at hq
        · rename_i zs hc
          simp only [Option.some.injEq, Prod.mk.injEq] at hq
          obtain ⟨rfl, rfl⟩ := hq
          dsimp only [RelV, Rel] at hr
          obtain ⟨_, ha, k, cap, rfl, hnc, hk, hcap, hko⟩ := hr
          unfold getN at hg
          split at hg
          · rename_i us hu
            obtain ⟨Fy, hn, _⟩ := node_walk (h.node e us hu ha) hg
            obtain ⟨vs, F', _, hb, hlen, hat, hrr⟩ := hn
            obtain ⟨vs1, vs2, vs3, F1, F2, F3, rfl, hl1, _, _, hr2, _⟩ := hrr.cut hc
            have hat2 := hat.mid
            rw [hl1] at hat2
            have hl2 : vs2.length = n * sz' := by rw [hr2.length, (cut_some hc).2]; have := (cut_some hc).1; simp; omega
            refine ⟨vs2, RelL.looks ha (fun i q => by simp) hr2, hl2, by simp [Builtin.lenOf], fun w' hw' => ?_⟩
            refine run_firstCells_some w' sz' n _ n cap vs2 hl2 (fun j v hv => ?_)
            rw [Addr.add_lit, hcell w' _ hw']
            rcases hk with h0 | h0
            · have : n * sz' ≤ cap * sz' := Nat.mul_le_mul_right _ hnc
              have : vs2 = [] := by rw [← List.length_eq_zero_iff]; omega
              rw [this] at hv
              simp at hv
            · have := hat2 j v hv
              simp only [List.append_nil] at this
              rw [h0]
              exact this
          · cases hg
        · cases hq
      · cases hq
    · cases hq
  · rename_i fl sz' n xs
    split at hq
    · rename_i hs
      subst hs
      simp only [Option.some.injEq, Prod.mk.injEq] at hq
      obtain ⟨rfl, rfl⟩ := hq
      dsimp only [RelV, Rel] at hr
      obtain ⟨_, hl, _, ad, cap, rfl, hnc, hx⟩ := hr
      rcases hx with rfl | ⟨b, k, vs, rfl, hz, hat, hrr⟩
      · refine ⟨[], by simp [RelL], by simpa using hl, by simp [Builtin.lenOf], fun w' hw' => ?_⟩
        cases ad with
        | none => simp [Builtin.firstCells]
        | some ad => exact run_firstCells_some w' sz' n ad n cap [] (by simpa using hl) (by simp)
      · refine ⟨vs, hrr, by rw [hrr.length, hl], by simp [Builtin.lenOf], fun w' hw' => ?_⟩
        exact run_firstCells_some w' sz' n _ n cap vs (by rw [hrr.length, hl]) (fun j v hv => by rw [Addr.add_lit, hcell w' _ hw']; exact hat j v hv)
    · cases hq
  · rename_i str
    split at hq
    · rename_i hs
      subst hs
      simp only [Option.some.injEq, Prod.mk.injEq] at hq
      obtain ⟨rfl, rfl⟩ := hq
      dsimp only [RelV, Rel] at hr
      obtain ⟨rfl, _⟩ := hr
      refine ⟨str.data.toList.map fun b => .int .u8 (b.toNat : Int), ?_, by simp, by simp [Builtin.lenOf], fun w' hw' => ?_⟩
      · have : ∀ (l : List UInt8), RelL E g0 (l.map fun b => C.int .u8 (b.toNat : Int)) (l.map fun b => Value.int .u8 (b.toNat : Int)) [] := by
          intro l
          induction l with
          | nil => simp [RelL]
          | cons b l ih =>
            simp only [List.map_cons, RelL]
            exact ⟨_, _, [], [], rfl, rfl, by dsimp only [Rel]; exact ⟨rfl, rfl⟩, ih.flat_of_nil⟩
        exact this _
      · simp only [Builtin.firstCells, Sem.run_pure]
        congr 1
        have : str.extract 0 str.size = str := by simp
        rw [this]
        apply Array.toList_inj.1
        simp
    · cases hq
  · cases hq

def noInt (P : Program) (t : TypeId) : Bool :=
  match P.underlying t with
  | some (.slice _) | some .string => true
  | _ => false

theorem noInt_cases {t : TypeId} (h : noInt P t = true) : (∃ e, P.underlying t = some (.slice e)) ∨ P.underlying t = some .string := by
  unfold noInt at h
  split at h
  · exact .inl ⟨_, ‹_›⟩
  · exact .inr ‹_›
  · cases h

theorem run_app_room {t t2 ty e : TypeId} {i : TypeInfo} (ht : P.underlying t = some (.slice e)) (ht2 : noInt P t2 = true) (hi : P.info? e = some i) (w : World)
    {g off sLen sCap m : Nat} {yv : Value} {news : List Value} {cur : Array Value} {ct : TypeId} (hg : w.heap[g]? = some (.cells cur ct (0, 0)))
    (hlen : (Builtin.lenOf yv).run P w = .ok m w) (hfirst : (Builtin.firstCells i.size m yv).run P w = .ok news.toArray w) (h1 : ∀ u ∈ news, u.oneCell' = true)
    (hroom : sLen + m ≤ sCap) (hfit : off + sLen * i.size + news.length ≤ cur.size) :
    (Builtin.append_ #[t, t2] ty #[.slice (some ⟨g, off, none⟩) sLen sCap, yv]).run P w =
      .ok (.slice (some ⟨g, off, none⟩) (sLen + m) sCap) (w.setRow g (cur.toList.take (off + sLen * i.size) ++ news ++ cur.toList.drop (off + sLen * i.size + news.length)).toArray) := by
  have hst := run_storeCells_at P g (off + sLen * i.size) ct news 0 cur w hg (by simpa using hfit) h1
  simp only [Nat.add_zero] at hst
  clear hg h1 hfit
  generalize w.setRow g _ = w' at hst ⊢
  generalize hss : storeCells ⟨g, off + sLen * i.size, none⟩ news 0 = ss at hst
  generalize hL : Builtin.lenOf yv = L at hlen
  generalize hFF : Builtin.firstCells i.size m yv = FF at hfirst
  rcases noInt_cases ht2 with ⟨e2, hu2⟩ | hu2
  · simp [Builtin.append_, run_underlying ht, run_underlying hu2, sizeOf, typeInfo, hi, hL, hlen, hroom, hFF, hfirst, Addr.add_lit, hss, hst]
  · simp [Builtin.append_, run_underlying ht, run_underlying hu2, sizeOf, typeInfo, hi, hL, hlen, hroom, hFF, hfirst, Addr.add_lit, hss, hst]

theorem run_app_none {t t2 ty e : TypeId} {i : TypeInfo} (ht : P.underlying t = some (.slice e)) (ht2 : noInt P t2 = true) (hi : P.info? e = some i) (w : World)
    {yv : Value} {news : List Value} (hlen : (Builtin.lenOf yv).run P w = .ok 0 w) (hfirst : (Builtin.firstCells i.size 0 yv).run P w = .ok news.toArray w) :
    (Builtin.append_ #[t, t2] ty #[.slice none 0 0, yv]).run P w = .ok (.slice none 0 0) w := by
  generalize hL : Builtin.lenOf yv = L at hlen
  generalize hFF : Builtin.firstCells i.size 0 yv = FF at hfirst
  rcases noInt_cases ht2 with ⟨e2, hu2⟩ | hu2
  · simp [Builtin.append_, run_underlying ht, run_underlying hu2, sizeOf, typeInfo, hi, hL, hlen, hFF, hfirst]
  · simp [Builtin.append_, run_underlying ht, run_underlying hu2, sizeOf, typeInfo, hi, hL, hlen, hFF, hfirst]

theorem run_app_grow {t t2 ty e : TypeId} {i : TypeInfo} {z : Value} (ht : P.underlying t = some (.slice e)) (ht2 : noInt P t2 = true) (hi : P.info? e = some i) (hz : i.zero = some z) (hby : i.bytes ≠ 0) (w : World)
    {base : Option Addr} {sLen sCap m : Nat} {yv : Value} {olds news : List Value}
    (hlen : (Builtin.lenOf yv).run P w = .ok m w) (hold : ∀ w', w'.heap = w.heap → (Builtin.firstCells i.size sLen (.slice base sLen sCap)).run P w' = .ok olds.toArray w')
    (hfirst : ∀ w', w'.heap = w.heap → (Builtin.firstCells i.size m yv).run P w' = .ok news.toArray w')
    (hg : sCap < sLen + m) (hb : (sLen + m) * i.bytes ≤ 2 ^ 46) :
    (Builtin.append_ #[t, t2] ty #[.slice base sLen sCap, yv]).run P w =
      .ok (.slice (some ⟨w.heap.size, 0, none⟩) (sLen + m) (grownCap w (sLen + m) sCap e))
        (w.drew.alloc (.cells (olds.toArray ++ news.toArray ++ Builtin.zeroCells z.cells (grownCap w (sLen + m) sCap e - (sLen + m))) e)) := by
  have hle : sLen + m ≤ (sLen + m) * i.bytes := Nat.le_mul_of_pos_right _ (Nat.pos_of_ne_zero hby)
  have hn : ¬ (sLen + m ≤ sCap) := by omega
  have h63 : ((sLen + m : Nat) : Int) ≤ 9223372036854775807 := by omega
  have h63' : ¬ (9223372036854775807 < (sLen : Int) + (m : Int)) := by omega
  have hfit := growslice_fits (need := sLen + m) (old := sCap) (bytes := i.bytes) hg (by omega)
  have h48' : ¬ (281474976710656 < Builtin.nextslicecap (sLen + m) sCap * i.bytes) := by omega
  have ho := hold w.drew rfl
  have hf := hfirst w.drew rfl
  clear hold hfirst hle hb hfit hg h63
  generalize hL : Builtin.lenOf yv = L at hlen
  generalize hFF : Builtin.firstCells i.size m yv = FF at hf
  generalize hGG : Builtin.firstCells i.size sLen (.slice base sLen sCap) = GG at ho
  rcases noInt_cases ht2 with ⟨e2, hu2⟩ | hu2
  · simp [Builtin.append_, run_underlying ht, run_underlying hu2, sizeOf, typeInfo, zeroValue, hi, hz, hL, hlen, hn, h63', h48', hby, Question.forced, hGG, ho, hFF, hf, newRow, grownCap]
    congr 2
    apply Array.ext'
    simp [List.append_assoc]
  · simp [Builtin.append_, run_underlying ht, run_underlying hu2, sizeOf, typeInfo, zeroValue, hi, hz, hL, hlen, hn, h63', h48', hby, Question.forced, hGG, ho, hFF, hf, newRow, grownCap]
    congr 2
    apply Array.ext'
    simp [List.append_assoc]

end
end Go.Proofs.Ytgodaiiegcdpcaa.Abs
end
section
set_option linter.unusedVariables false
set_option linter.unusedSimpArgs false
namespace Go.Proofs.Ytgodaiiegcdpcaa.Abs
section
variable {P : Program} {N : Nat} {s s' : St} {a : Act} {E : Env} {Fe : Id → List Nat} {o : Oper} {d : Option Nat}

/-- A name taken for no event. -/
theorem SR.name (h : SR N s a E Fe) {i : Id} (hi : ¬ E.Al i) (hH : s.H i = none) :
    SR N s a { E with Al := fun e => E.Al e ∨ e = i } Fe ∧ Grow E { E with Al := fun e => E.Al e ∨ e = i } Fe Fe := by
  have hk : E.Keeps { E with Al := fun e => E.Al e ∨ e = i } := ⟨fun _ _ hz => ⟨hz, rfl⟩, fun _ _ _ => rfl, fun _ hh => .inl hh, fun _ _ hx => hx⟩
  refine ⟨⟨h.tmps.mono hk, h.width, h.defers, fun e xs he ha => ?_, fun e he => ?_, h.nodup, h.disj, h.size, h.zone, h.zlt, h.xlt⟩, Grow.of_old h.xlt hk rfl rfl (Nat.le_refl _) (fun _ _ => rfl) (fun e b hb => .inl ⟨e, hb⟩) rfl rfl rfl⟩
  · rcases ha with ha | ha
    · exact (h.node e xs he ha).mono ⟨hk, fun _ _ => rfl⟩
    · subst ha; rw [hH] at he; cases he
  · exact h.empty e (he.imp id fun hn hh => hn (.inl hh))

theorem grownCap_ge (w : World) (need old : Nat) (e : TypeId) : need ≤ grownCap w need old e := by
  simp [grownCap, Question.cut]

theorem step_app (h : SR N s a E Fe) (hd : ∀ t, d = some t → t < N) (hod : o.dst = d) {t t2 e0 : TypeId} {x y : Operand} {x' y' : Opd} {sz bytes : Nat}
    (ho : o.op = .call { callee := .builtin .append, args := #[x, y], argTypes := #[t, t2] }) (ht : P.underlying t = some (.slice e0)) (ht2 : noInt P t2 = true)
    {inf : TypeInfo} {z : Value} (hinf : P.info? e0 = some inf) (hsz : inf.size = sz) (hby : inf.bytes = bytes) (hb0 : bytes ≠ 0) (hz : inf.zero = some z) (hzs : z.cells.size = sz)
    (hx : opdOk x x' = true) (hy : opdOk y y' = true) {i : Id} (hi : ¬ E.Al i) (hiH : s.H i = none) {v : V} {H' : Heap} (hq : appV s.H i sz bytes (ev s.T x') (ev s.T y') = some (v, H'))
    (hs : s' = { s with T := putT s.T d v, H := H' }) : StepOK P N o a E Fe s' (fun e => e = i) := by
  subst hsz hby
  have h1 := opdOk_rel hx h.tmps
  have h2 := opdOk_rel hy h.tmps
  have hexec : ∀ {r w'}, (Builtin.append_ #[t, t2] o.type #[a.eval x, a.eval y]).run P E.w = .ok r w' → Does P o a E.w r w' := by
    intro r w' hr
    refine .inl ?_
    simp [execOp, ho, resolve, invoke, builtin, hr]
  unfold appV at hq
  split at hq
  · cases hq
  rename_i m ys hsrc
  split at hq
  case isFalse => cases hq
  rename_i hall
  obtain ⟨news, hnr, hnl, hlen, hfirst⟩ := src_rel (P := P) h hsrc h2
  have hone : ∀ u ∈ news, u.oneCell' = true := lies_all hall hnr
  split at hq
  · -- onto nil
    rename_i hxv
    rw [hxv] at h1
    dsimp only [RelV, Rel] at h1
    split at hq
    · rename_i hm
      subst hm
      simp only [Option.some.injEq, Prod.mk.injEq] at hq
      obtain ⟨rfl, rfl⟩ := hq
      subst hs
      obtain ⟨hSR, hG⟩ := h.name hi hiH
      refine ⟨.slice none 0 0, _, Fe, hexec ?_, ?_, hG, fun e => Iff.rfl⟩
      · rw [h1.1]
        exact run_app_none ht ht2 hinf E.w hlen (hfirst E.w rfl)
      · rw [hod]
        exact hSR.put hd (by dsimp only [RelV, Rel]; exact ⟨rfl, rfl⟩)
    · rename_i hm
      split at hq
      case isFalse => cases hq
      rename_i hmb
      simp only [Option.some.injEq, Prod.mk.injEq] at hq
      obtain ⟨rfl, rfl⟩ := hq
      subst hs
      obtain ⟨g, F, Fe1, r1, r2, r3, r4, r5⟩ := absorb_rel h hnr
      have hrun := run_app_grow (P := P) (ty := o.type) (base := none) (sLen := 0) (sCap := 0) (olds := []) ht ht2 hinf hz hb0 E.w hlen (fun w' _ => by simp [Builtin.firstCells]) hfirst (by omega) (by simpa using hmb)
      simp only [Nat.zero_add] at hrun
      obtain ⟨E', hE', hG, hal, hSR, hk, hZ, hX, hss, hold, q1, q2, q3⟩ := r5.row (i := i) hi r1 r2
        (fun b hb => ⟨(r3 b hb).1, by obtain ⟨e, he⟩ := (r3 b hb).2; exact h.size e b he, fun fl hz' => by obtain ⟨e, he⟩ := (r3 b hb).2; exact h.zone fl b hz' e he⟩)
        (cs := #[] ++ news.toArray ++ Builtin.zeroCells z.cells (grownCap E.w m 0 e0 - m)) (t := e0) (w' := E.w.drew.alloc (.cells (#[] ++ news.toArray ++ Builtin.zeroCells z.cells (grownCap E.w m 0 e0 - m)) e0))
        rfl (fun j v hv => by
          have hj : j < news.length := (List.getElem?_eq_some_iff.1 hv).1
          rw [Array.getElem?_append_left (by simpa using hj)]
          simpa using hv) (by simp) rfl rfl rfl
      have hcap := grownCap_ge E.w m 0 e0
      refine ⟨.slice (some ⟨E.w.heap.size, 0, none⟩) m (grownCap E.w m 0 e0), E', upd Fe1 i (E.w.heap.size :: F), hexec ?_, ?_, Grow.of_old h.xlt hk hZ hX hss hold (fun e b hb => ?_) q1 q2 q3, hal⟩
      · rw [hE', h1.1]
        exact hrun
      · rw [hod]
        refine hSR.put hd ?_
        dsimp only [RelV, Rel]
        refine ⟨rfl, (hal i).2 (.inr rfl), 0, grownCap E.w m 0 e0, by rw [hG], hcap, .inr (by rw [hG]), .inr ?_, Nat.zero_le _⟩
        rw [hG]
        simp [size_zeroCells, hnl, hzs, Nat.sub_mul]
        have : m * inf.size ≤ grownCap E.w m 0 e0 * inf.size := Nat.mul_le_mul_right _ hcap
        omega
      · by_cases hei : e = i
        · subst hei
          simp only [upd_same, List.mem_cons] at hb
          rcases hb with hb | hb
          · exact .inr (Nat.le_of_eq hb.symm)
          · exact .inl (r3 b hb).2
        · rw [upd_ne _ _ hei] at hb
          exact .inl ⟨e, (r4 e).subset hb⟩
  · -- onto a slice of its own
    rename_i e p sz' lo n hxv
    split at hq
    case isFalse => cases hq
    rename_i hc
    obtain ⟨rfl, hbb⟩ := hc
    rw [hxv] at h1
    dsimp only [RelV, Rel] at h1
    obtain ⟨_, ha, k, cap, hxe, hnc, hk0, hcap, hko⟩ := h1
    split at hq
    case h_2 => cases hq
    rename_i xs hg
    split at hq
    case h_2 => cases hq
    rename_i old H1 hcut hkill
    simp only [Option.some.injEq, Prod.mk.injEq] at hq
    obtain ⟨rfl, rfl⟩ := hq
    subst hs
    obtain ⟨F0, Fe1, hnode, hsub0, hdis0, hsub1, hSR1⟩ := h.kill ha hg hkill
    obtain ⟨g, F, Fe2, r1, r2, r3, r4, r5⟩ := absorb_rel hSR1 hnr
    simp only at r1 r5
    have hnd0 : F0.Nodup := hsub0.nodup (h.nodup e)
    obtain ⟨vs, F1, rfl, hblk, hle, hat, hr⟩ := hnode
    simp only [List.append_nil] at hblk hle hat hsub0 hdis0 hnd0
    obtain ⟨vs1, vs2, vs3, Fa, Fb, Fc, rfl, hl1, rfl, _, hr2, _⟩ := hr.cut hcut
    have hl2 : vs2.length = n * inf.size := by rw [hr2.length, (cut_some hcut).2]; have := (cut_some hcut).1; simp; omega
    have hat2 := hat.mid
    rw [hl1] at hat2
    have hbZ : ∀ fl, ¬ E.Z fl (E.G e p).1 := fun fl hzz => h.zone fl _ hzz e (hsub0.subset (by simp))
    have hFb : Fb.Sublist (Fa ++ (Fb ++ Fc)) := (List.sublist_append_left Fb Fc).trans (List.sublist_append_right Fa _)
    have hold2 : ∀ w', w'.heap = E.w.heap → (Builtin.firstCells inf.size n (.slice (some ⟨(E.G e p).1, k, none⟩) n cap)).run P w' = .ok vs2.toArray w' := by
      intro w' hw'
      refine run_firstCells_some w' inf.size n _ n cap vs2 hl2 (fun j v hv => ?_)
      have hce : w'.cell? ⟨(E.G e p).1, k + j, none⟩ = E.w.cell? ⟨(E.G e p).1, k + j, none⟩ := World.cell?_of_block (by rw [hw'])
      rw [Addr.add_lit, hce]
      rcases hk0 with h0 | h0
      · have : n * inf.size ≤ cap * inf.size := Nat.mul_le_mul_right _ hnc
        have : vs2 = [] := by rw [← List.length_eq_zero_iff]; omega
        rw [this] at hv
        simp at hv
      · rw [h0]; exact hat2 j v hv
    have hjoin := hr2.join r1
    have hFF : (Fb ++ F).Nodup := by
      refine List.nodup_append.2 ⟨hFb.nodup (List.nodup_cons.1 hnd0).2, r2, fun b hb b' hb' hbb' => ?_⟩
      subst hbb'
      obtain ⟨e2, he2⟩ := (r3 b hb').2
      exact hdis0 b (by simp [hFb.subset hb]) e2 he2
    have hFd : ∀ b ∈ Fb ++ F, (∀ e2, b ∉ Fe2 e2) ∧ b < E.w.heap.size ∧ (∀ fl, ¬ E.Z fl b) ∧ ∃ e0, b ∈ Fe e0 := by
      intro b hb
      rcases List.mem_append.1 hb with hb | hb
      · have hbe : b ∈ Fe e := hsub0.subset (by simp [hFb.subset hb])
        exact ⟨fun e2 he2 => hdis0 b (by simp [hFb.subset hb]) e2 ((r4 e2).subset he2), h.size e b hbe, fun fl hzz => h.zone fl b hzz e hbe, e, hbe⟩
      · obtain ⟨e2, he2⟩ := (r3 b hb).2
        have hbe := (hsub1 e2).subset he2
        exact ⟨(r3 b hb).1, h.size e2 b hbe, fun fl hzz => h.zone fl b hzz e2 hbe, e2, hbe⟩
    by_cases hroom : n + m ≤ cap
    · obtain ⟨cur, ct, hgb, hcs, hcx⟩ := hblk
      have hnm : n * inf.size + m * inf.size ≤ cap * inf.size := by rw [← Nat.add_mul]; exact Nat.mul_le_mul_right _ hroom
      have hkc : k + cap * inf.size ≤ cur.size := by
        rcases hcap with h0 | h0
        · omega
        · rcases hk0 with h5 | h5 <;> omega
      have hfit : k + n * inf.size + news.length ≤ cur.size := by omega
      have hrun := run_app_room (P := P) (ty := o.type) ht ht2 hinf E.w hgb hlen (hfirst E.w rfl) hone hroom hfit
      generalize hw' : E.w.setRow (E.G e p).1 (cur.toList.take (k + n * inf.size) ++ news ++ cur.toList.drop (k + n * inf.size + news.length)).toArray = w' at hrun
      have hother : ∀ b, b ≠ (E.G e p).1 → w'.heap[b]? = E.w.heap[b]? := fun b hb => by rw [← hw']; exact setRow_other _ _ _ _ hb
      have hsz' : w'.heap.size = E.w.heap.size := by rw [← hw']; simp
      have hbe : (E.G e p).1 ∈ Fe e := hsub0.subset (by simp)
      let key : List Nat → Key := fun q => match q with
        | [] => ((E.G e p).1, k, cap * inf.size)
        | j :: q => (if j < old.length then (fun j => (fun j q => E.G e (p ++ (j :: q))) (lo + j)) j else g (j - old.length)) q
      let E' : Env := { w := w', Z := E.Z, G := upd E.G i key, Al := fun e => E.Al e ∨ e = i, X := E.X }
      have hkeep : E.Keeps E' := by
        refine ⟨fun fl b hzz => ⟨hzz, hother b (fun e1 => hbZ fl (e1 ▸ hzz))⟩, fun e2 q hae => ?_, fun e2 hae => .inl hae, fun _ _ hx => hx⟩
        have : e2 ≠ i := fun he => hi (he ▸ hae)
        show upd E.G i _ e2 q = _
        rw [upd_ne _ _ this]
      have hG : E'.G i = key := upd_same _ _ _
      have hnotb : (E.G e p).1 ∉ Fb ++ F := by
        intro hm
        rcases List.mem_append.1 hm with hm | hm
        · exact (List.nodup_cons.1 hnd0).1 (hFb.subset hm)
        · obtain ⟨e2, he2⟩ := (r3 _ hm).2
          exact hdis0 _ (by simp) e2 he2
      have hat3 : At E.w (E.G e p).1 k vs2 := by
        rcases hk0 with h0 | h0
        · have : vs2 = [] := by rw [← List.length_eq_zero_iff]; omega
          subst this
          intro j v hv
          simp at hv
        · rw [h0]; exact hat2
      have hnew : NodeAt E' (E'.G i) (old ++ (absorb H1 ys).1) ((E.G e p).1 :: (Fb ++ F)) := by
        rw [hG]
        refine ⟨vs2 ++ news, Fb ++ F, rfl, ⟨_, ct, by show w'.heap[_]? = _; rw [← hw']; exact setRow_heap _ _ cur _ ct (0, 0) hgb, ?_, fun j q1 q2 hx => ?_⟩, ?_, ?_, ?_⟩
        · show k + cap * inf.size ≤ _
          simp; omega
        · have q1' : k ≤ j := q1
          have q2' : j < k + cap * inf.size := q2
          rcases hcap with h0 | h0
          · omega
          · rcases hk0 with h5 | h5
            · omega
            · exact hcx j (by omega) (by omega) hx
        · show _ ≤ cap * inf.size
          rw [← hjoin.length, List.length_append, hl2, hnl]
          exact hnm
        · show At w' (E.G e p).1 k _
          rw [← hw']
          have := hat3.setRow (off := vs2.length) (ws := news) hgb (Nat.le_refl _) (by rw [hl2]; exact hfit)
          have e1 : vs2.take vs2.length ++ news ++ vs2.drop (vs2.length + news.length) = vs2 ++ news := by
            rw [List.take_of_length_le (Nat.le_refl _), List.drop_eq_nil_of_le (as := vs2) (Nat.le_add_right _ _), List.append_nil]
          rw [e1, hl2] at this
          exact this
        · exact RelL.mono _ ⟨hkeep, fun b hb => hother b (fun e1 => hnotb (e1 ▸ hb))⟩ hjoin
      have hSR := r5.add (E' := E') hi hkeep rfl (fun e2 => Iff.rfl) (by show _ ≤ w'.heap.size; omega)
        (fun e2 b hb => hother b (fun e1 => hdis0 b (by simp [e1]) e2 ((r4 e2).subset hb))) hnew (List.nodup_cons.2 ⟨hnotb, hFF⟩) (fun b hb => by
          rcases List.mem_cons.1 hb with rfl | hb
          · exact ⟨fun e2 he2 => hdis0 _ (by simp) e2 ((r4 e2).subset he2), by show _ < w'.heap.size; rw [hsz']; exact h.size e _ hbe, hbZ⟩
          · exact ⟨(hFd b hb).1, by show _ < w'.heap.size; rw [hsz']; exact (hFd b hb).2.1, (hFd b hb).2.2.1⟩)
      refine ⟨.slice (some ⟨(E.G e p).1, k, none⟩) (n + m) cap, E', upd Fe2 i ((E.G e p).1 :: (Fb ++ F)), hexec ?_, ?_, ⟨hkeep, rfl, by show _ ≤ w'.heap.size; omega, fun b hb hb2 => hother b (fun e1 => hb2 e (e1 ▸ hbe)), fun e2 b hb => ?_, ?_, ?_, ?_, fun b j hx => ?_, ?_, rfl⟩, fun e2 => Iff.rfl⟩
      · rw [hxe]
        exact hrun
      · rw [hod]
        refine hSR.put hd ?_
        dsimp only [RelV, Rel]
        rw [hG]
        exact ⟨rfl, .inr rfl, k, cap, rfl, hroom, .inr rfl, .inr (by show 0 + _ ≤ _; simp [key]), by simp [key]⟩
      · by_cases hei : e2 = i
        · subst hei
          simp only [upd_same, List.mem_cons] at hb
          rcases hb with hb | hb
          · exact .inl ⟨e, hb ▸ hbe⟩
          · exact .inl (hFd b hb).2.2.2
        · rw [upd_ne _ _ hei] at hb
          exact .inl ⟨e2, (hsub1 e2).subset ((r4 e2).subset hb)⟩
      · show w'.os = _; rw [← hw']; rfl
      · show w'.tape = _; rw [← hw']; rfl
      · show w'.output = _; rw [← hw']; rfl
      · show w'.cell? _ = _
        by_cases hbe2 : b = (E.G e p).1
        · subst hbe2
          rw [← hw']
          refine setRow_cell_out hgb hfit ?_
          by_cases q1 : j < k + n * inf.size
          · exact .inl q1
          · by_cases q2 : k + n * inf.size + news.length ≤ j
            · exact .inr q2
            · rcases hcap with h0 | h0
              · omega
              · rcases hk0 with h5 | h5
                · omega
                · exact absurd hx (hcx j (by omega) (by omega))
        · exact World.cell?_of_block (hother b hbe2)
      · intro b c1 t1 fr1 hb
        show ∃ c', w'.heap[b]? = _ ∧ _
        rw [← hw']
        exact setRow_shape hgb (by simp; omega) b c1 t1 fr1 hb
    · have hrun := run_app_grow (P := P) (ty := o.type) ht ht2 hinf hz hb0 E.w hlen hold2 hfirst (by omega) hbb
      obtain ⟨E', hE', hG, hal, hSR, hk, hZ, hX, hss, hold, q1, q2, q3⟩ := r5.row (i := i) hi hjoin hFF (fun b hb => ⟨(hFd b hb).1, (hFd b hb).2.1, (hFd b hb).2.2.1⟩)
        (cs := vs2.toArray ++ news.toArray ++ Builtin.zeroCells z.cells (grownCap E.w (n + m) cap e0 - (n + m))) (t := e0)
        (w' := E.w.drew.alloc (.cells (vs2.toArray ++ news.toArray ++ Builtin.zeroCells z.cells (grownCap E.w (n + m) cap e0 - (n + m))) e0))
        rfl (fun j v hv => by
          have hj : j < (vs2 ++ news).length := (List.getElem?_eq_some_iff.1 hv).1
          rw [Array.getElem?_append_left (by simpa using hj)]
          simpa using hv) (by simp) rfl rfl rfl
      have hcap2 := grownCap_ge E.w (n + m) cap e0
      refine ⟨.slice (some ⟨E.w.heap.size, 0, none⟩) (n + m) (grownCap E.w (n + m) cap e0), E', upd Fe2 i (E.w.heap.size :: (Fb ++ F)), hexec ?_, ?_, Grow.of_old h.xlt hk hZ hX hss hold (fun e2 b hb => ?_) q1 q2 q3, hal⟩
      · rw [hE', hxe]
        exact hrun
      · rw [hod]
        refine hSR.put hd ?_
        dsimp only [RelV, Rel]
        refine ⟨rfl, (hal i).2 (.inr rfl), 0, grownCap E.w (n + m) cap e0, by rw [hG], hcap2, .inr (by rw [hG]), .inr ?_, Nat.zero_le _⟩
        rw [hG]
        simp [size_zeroCells, hnl, hl2, hzs, Nat.sub_mul]
        have : (n + m) * inf.size ≤ grownCap E.w (n + m) cap e0 * inf.size := Nat.mul_le_mul_right _ hcap2
        rw [Nat.add_mul] at this ⊢
        omega
      · by_cases hei : e2 = i
        · subst hei
          simp only [upd_same, List.mem_cons] at hb
          rcases hb with hb | hb
          · exact .inr (Nat.le_of_eq hb.symm)
          · exact .inl (hFd b hb).2.2.2
        · rw [upd_ne _ _ hei] at hb
          exact .inl ⟨e2, (hsub1 e2).subset ((r4 e2).subset hb)⟩
  · cases hq

end
end Go.Proofs.Ytgodaiiegcdpcaa.Abs
end
section
set_option linter.unusedVariables false
set_option linter.unusedSimpArgs false
namespace Go.Proofs.Ytgodaiiegcdpcaa.Abs
section
variable {P : Program} {E : Env} {a : Act} {T : Nat → V} {o : Oper} {v : V}

def placesOf (P : Program) (t : TypeId) : Option (List (Nat × Nat)) :=
  match P.underlying t with
  | some (.struct fs) => fs.toList.mapM (fun f => (P.info? f.type).map fun i => (f.offset, i.size))
  | _ => none

theorem q_build {t : TypeId} {ps : Array (Nat × Operand)} {qs : List (Nat × Nat × Opd)} {zero : List C} {pl : List (Nat × Nat)} (ho : o.op = .build t ps) (hpl : placesOf P t = some pl)
    (hz : zeroOk P t zero = true) (hp : partsOk (pl[·]?) ps.toList qs = true) (hT : TR E T a) (hq : quiet T (.build zero qs) = some v) : ∃ v', Val P o a v' ∧ RelV E v v' := by
  obtain ⟨inf, z, hinf, hzz, hr⟩ := zeroOk_rel (E := E) (g := g0) hz
  simp only [quiet] at hq
  cases hf : fillC T zero qs with
  | none => rw [hf] at hq; cases hq
  | some cs =>
    rw [hf] at hq
    simp only [Option.map_some, Option.some.injEq] at hq
    subst hq
    obtain ⟨vs', hfill, hr'⟩ := fill_rel hT hp hf hr
    refine ⟨.agg vs'.toArray, fun w => ?_, vs', rfl, hr'⟩
    have hb : P.built t (ps.map fun (i, x) => (i, a.eval x)).toList = some vs'.toArray := by
      unfold placesOf at hpl
      unfold Program.built
      split at hpl
      · rename_i fs hfs
        rw [hinf, hfs]
        simp only [hzz, hpl]
        rw [Array.toArray_toList] at hfill
        rw [Array.toList_map]
        simpa using hfill
      · cases hpl
    have := run_build (P := P) w t (ps.map fun (i, x) => (i, a.eval x)) vs'.toArray hb
    simp only [execOp, ho, Sem.run_bind, this, Result.andThen_ok]
    rfl

/-- A struct's fields are numbers and truths, one cell each. -/
def eqFieldsOk (P : Program) : Nat → List Bool → List Field → Bool
  | _, [], [] => true
  | k, b :: bs, f :: fs => f.name != "_" && f.offset == k && (match b, P.underlying f.type with | true, some (.int _) => true | false, some .bool => true | _, _ => false) && eqFieldsOk P (k + 1) bs fs
  | _, _, _ => false

theorem part_one {t : TypeId} (ht : (∃ k, P.underlying t = some (.int k)) ∨ P.underlying t = some .bool) (cs : Array Value) (k : Nat) {u : Value} (hk : cs[k]? = some u) (w : World) :
    (part t cs k).run P w = .ok u w := by
  rcases ht with ⟨kk, h⟩ | h <;> simp [part, isAgg, run_underlying h, hk]

theorem eqFields_run (d : Nat) (A B : Array Value) (w : World) : ∀ {fs : List Field} {k : Nat} {bs : List Bool} {xs ys : List C} {vs us : List Value} {r : Bool}, eqFieldsOk P k bs fs = true →
    (∀ (i : Nat) u, vs[i]? = some u → A[k + i]? = some u) → (∀ (i : Nat) u, us[i]? = some u → B[k + i]? = some u) → RelL E g0 xs vs [] → RelL E g0 ys us [] → eqsC bs xs ys = some r →
    (Op.eqFields (d + 1) A B fs).run P w = .ok r w
  | [], k, bs, xs, ys, vs, us, r, hok, _, _, h1, h2, hq => by
    cases bs with
    | cons _ _ => simp [eqFieldsOk] at hok
    | nil =>
      cases xs with
      | cons _ _ => simp [eqsC] at hq
      | nil =>
        cases ys with
        | nil => simp only [eqsC, Option.some.injEq] at hq; subst hq; simp [Op.eqFields]
        | cons _ _ => simp [eqsC] at hq
  | f :: fs, k, bs, xs, ys, vs, us, r, hok, hA, hB, h1, h2, hq => by
    cases bs with
    | nil => simp [eqFieldsOk] at hok
    | cons bk bs =>
      cases xs with
      | nil => simp [eqsC] at hq
      | cons x xs =>
        cases ys with
        | nil => simp [eqsC] at hq
        | cons y ys =>
          simp only [RelL] at h1 h2
          obtain ⟨v0, vs', F1, F2, rfl, hF, r1, r2⟩ := h1
          obtain ⟨u0, us', F3, F4, rfl, hF', r3, r4⟩ := h2
          obtain ⟨rfl, rfl⟩ := List.append_eq_nil_iff.1 hF.symm
          obtain ⟨rfl, rfl⟩ := List.append_eq_nil_iff.1 hF'.symm
          simp only [eqFieldsOk, Bool.and_eq_true, beq_iff_eq, bne_iff_ne] at hok
          obtain ⟨⟨⟨hname, hoff⟩, hty⟩, hrest⟩ := hok
          have hty' : (bk = true ∧ ∃ k, P.underlying f.type = some (.int k)) ∨ (bk = false ∧ P.underlying f.type = some .bool) := by
            split at hty
            · rename_i hu; exact .inl ⟨rfl, _, hu⟩
            · rename_i hu; exact .inr ⟨rfl, hu⟩
            · cases hty
          have hp1 := fun w => part_one (hty'.imp And.right And.right) A k (hA 0 v0 rfl) w
          have hp2 := fun w => part_one (hty'.imp And.right And.right) B k (hB 0 u0 rfl) w
          have heq : ∀ b, eqC bk x y = some b → (Op.equalIn (d + 1) f.type v0 u0).run P w = .ok b w := by
            intro b hb
            rcases hty' with ⟨rfl, k3, h3⟩ | ⟨rfl, h3⟩
            · cases x <;> cases y <;> simp only [eqC] at hb <;> first
                | (cases hb; done)
                | skip
              rename_i k1 p k2 q
              split at hb
              · rename_i hkk
                subst hkk
                simp only [Option.some.injEq] at hb
                subst hb
                dsimp only [Rel] at r1 r3
                obtain ⟨rfl, _⟩ := r1
                obtain ⟨rfl, _⟩ := r3
                exact run_equalIn_int w d f.type k1 k3 p q h3
              · cases hb
            · cases x <;> cases y <;> simp only [eqC] at hb <;> first
                | (cases hb; done)
                | skip
              rename_i p q
              simp only [Option.some.injEq] at hb
              subst hb
              dsimp only [Rel] at r1 r3
              obtain ⟨rfl, _⟩ := r1
              obtain ⟨rfl, _⟩ := r3
              exact run_equalIn_bool' w d f.type p q h3
          simp only [eqsC] at hq
          split at hq
          · rename_i he
            have ih := eqFields_run d A B w (fs := fs) (k := k + 1) (xs := xs) (ys := ys) (vs := vs') (us := us') hrest
              (fun i u hu => by have := hA (i + 1) u (by simpa using hu); rwa [show k + 1 + i = k + (i + 1) by omega])
              (fun i u hu => by have := hB (i + 1) u (by simpa using hu); rwa [show k + 1 + i = k + (i + 1) by omega]) r2.flat_of_nil r4.flat_of_nil hq
            simp [Op.eqFields, hname, hoff, hp1, hp2, heq true he, ih]
          · rename_i he
            simp only [Option.some.injEq] at hq
            subst hq
            simp [Op.eqFields, hname, hoff, hp1, hp2, heq false he]
          · cases hq

theorem q_eqs {op : BinOp} {ne : Bool} {ks : List Bool} {xt yt : TypeId} {x y : Operand} {x' y' : Opd} {fs : Array Field} (ho : o.op = .binOp op xt x y yt) (hop : op = if ne then .neq else .eql)
    (ht : P.underlying xt = some (.struct fs)) (hst : P.stoodInHeld xt = false) (hg : P.eqGuardType P.depth xt = false) (hfs : eqFieldsOk P 0 ks fs.toList = true) (hx : opdOk x x' = true) (hy : opdOk y y' = true)
    (hT : TR E T a) (hq : quiet T (.eqs ne ks x' y') = some v) : ∃ v', Val P o a v' ∧ RelV E v v' := by
  have h1 := opdOk_rel hx hT
  have h2 := opdOk_rel hy hT
  simp only [quiet] at hq
  split at hq
  · rename_i p q hp hq'
    rw [hp] at h1
    rw [hq'] at h2
    obtain ⟨vs, hvs, r1⟩ := h1
    obtain ⟨us, hus, r2⟩ := h2
    cases he : eqsC ks p q with
    | none => rw [he] at hq; cases hq
    | some r =>
      rw [he] at hq
      simp only [Option.map_some, Option.some.injEq] at hq
      subst hq
      refine ⟨.bool (r != ne), fun w => ?_, by dsimp only [RelV, Rel]; exact ⟨rfl, rfl⟩⟩
      have hfo : P.fieldsOf xt = fs := by simp [Program.fieldsOf, ht]
      have hrun := eqFields_run (P := P) 9998 vs.toArray us.toArray w hfs (fun i u hu => by simpa using hu) (fun i u hu => by simpa using hu) r1 r2 he
      have hstr := run_equalIn_struct (P := P) w 9999 xt vs.toArray us.toArray (by rw [hfo]; exact ht) hst
      rw [hfo] at hstr
      have hgr := run_eqGuard_agg (P := P) w op xt x y vs.toArray us.toArray hg
      have he2 : (Op.equalIn 10000 xt (.agg vs.toArray) (.agg us.toArray)).run P w = .ok r w := hstr.trans hrun
      cases ne
      · simp only [Bool.false_eq_true, if_false] at hop
        subst hop
        simp only [execOp, ho, hvs, hus, Sem.run_bind, hgr, Result.andThen_ok, run_eql_struct, he2]
        simp
      · simp only [if_true] at hop
        subst hop
        simp only [execOp, ho, hvs, hus, Sem.run_bind, hgr, Result.andThen_ok, run_neq_struct, he2]
        simp
  · cases hq

end
end Go.Proofs.Ytgodaiiegcdpcaa.Abs
end
section
set_option linter.unusedVariables false
set_option linter.unusedSimpArgs false
namespace Go.Proofs.Ytgodaiiegcdpcaa.Abs

/-- What closed cells lean on is the same in another frame. -/
structure Env.Over (E E' : Env) (F : List Nat) : Prop where
  own : ∀ b ∈ F, E'.w.heap[b]? = E.w.heap[b]?
  zone : ∀ b, E.Z false b → E'.Z false b ∧ E'.w.heap[b]? = E.w.heap[b]?
  prot : ∀ b ∈ F, ∀ k, E'.X b k → E.X b k

theorem Env.Over.sub {E E' : Env} {F F' : List Nat} (h : E.Over E' F) (hs : ∀ b ∈ F', b ∈ F) : E.Over E' F' :=
  ⟨fun b hb => h.own b (hs b hb), h.zone, fun b hb => h.prot b (hs b hb)⟩

/-- The zones that cells lean on that are read only. -/
def ZoneTo (fl : Bool) (E E' : Env) : Prop := ∀ f b, (f = false ∨ fl = true) → E.Z f b → E'.Z f b ∧ E'.w.heap[b]? = E.w.heap[b]?

mutual
/-- What is read only hangs on the zones alone. -/
theorem Rel.pure {E E' : Env} : ∀ (x : C) {fl : Bool} {h h' : List Nat → Key} {v : Value} {F : List Nat}, ZoneTo fl E E' → pur fl x = true → Rel E h x v F → F = [] ∧ Rel E' h' x v []
  | .int k n, _, _, _, _, _, _, _, r => by simp only [Rel] at r ⊢; exact ⟨r.2, r.1, trivial⟩
  | .bool b, _, _, _, _, _, _, _, r => by simp only [Rel] at r ⊢; exact ⟨r.2, r.1, trivial⟩
  | .str s, _, _, _, _, _, _, _, r => by simp only [Rel] at r ⊢; exact ⟨r.2, r.1, trivial⟩
  | .nils, _, _, _, _, _, _, _, r => by simp only [Rel] at r ⊢; exact ⟨r.2, r.1, trivial⟩
  | .nilp, _, _, _, _, _, _, _, r => by simp only [Rel] at r ⊢; exact ⟨r.2, r.1, trivial⟩
  | .dead, _, _, _, _, _, _, hc, _ => by simp [pur] at hc
  | .iptr .., _, _, _, _, _, _, hc, _ => by simp [pur] at hc
  | .ref .., _, _, _, _, _, _, hc, _ => by simp [pur] at hc
  | .ptr .., _, _, _, _, _, _, hc, _ => by simp [pur] at hc
  | .inl .., _, _, _, _, _, _, hc, _ => by simp [pur] at hc
  | .imm f sz n xs, fl, h, h', v, F, hz, hc, r => by
    simp only [pur, Bool.and_eq_true, Bool.or_eq_true, Bool.not_eq_true'] at hc
    dsimp only [Rel] at r ⊢
    obtain ⟨rfl, hl, hp, a, cap, rfl, hcap, hx⟩ := r
    refine ⟨rfl, rfl, hl, hp, a, cap, rfl, hcap, ?_⟩
    have hz' : ZoneTo f E E' := fun f' b hf => hz f' b (hf.elim .inl fun h1 => hc.1.elim (fun h2 => by rw [h1] at h2; cases h2) .inr)
    rcases hx with hx | ⟨b, o, vs, rfl, hzb, hat, hr⟩
    · exact .inl hx
    · exact .inr ⟨b, o, vs, rfl, (hz f b hc.1 hzb).1, hat.of_block (hz f b hc.1 hzb).2, (RelL.pure xs hz' hp hr).2⟩
theorem RelL.pure {E E' : Env} : ∀ (xs : List C) {fl : Bool} {g g' : Nat → List Nat → Key} {vs : List Value} {F : List Nat}, ZoneTo fl E E' → purL fl xs = true → RelL E g xs vs F → F = [] ∧ RelL E' g' xs vs []
  | [], _, _, _, _, _, _, _, r => by simp only [RelL] at r ⊢; exact ⟨r.2, r.1, trivial⟩
  | x :: xs, fl, g, g', vs, F, hz, hc, r => by
    simp only [purL, Bool.and_eq_true] at hc
    simp only [RelL] at r ⊢
    obtain ⟨v, vs', F1, F2, rfl, rfl, h1, h2⟩ := r
    obtain ⟨rfl, h1'⟩ := Rel.pure x (h' := g' 0) hz hc.1 h1
    obtain ⟨rfl, h2'⟩ := RelL.pure xs (g' := fun j => g' (j + 1)) hz hc.2 h2
    exact ⟨rfl, v, vs', [], [], rfl, rfl, h1', h2'⟩
end

mutual
theorem Rel.over {E E' : Env} : ∀ (x : C) {h : List Nat → Key} {v : Value} {F : List Nat}, clo x = true → E.Over E' F → Rel E h x v F → Rel E' h x v F
  | .int k n, _, _, _, _, _, r => by simpa only [Rel] using r
  | .bool b, _, _, _, _, _, r => by simpa only [Rel] using r
  | .str s, _, _, _, _, _, r => by simpa only [Rel] using r
  | .nils, _, _, _, _, _, r => by simpa only [Rel] using r
  | .nilp, _, _, _, _, _, r => by simpa only [Rel] using r
  | .dead, _, _, _, hc, _, _ => by simp [clo] at hc
  | .iptr .., _, _, _, hc, _, _ => by simp [clo] at hc
  | .ref .., _, _, _, hc, _, _ => by simp [clo] at hc
  | .ptr .., _, _, _, hc, _, _ => by simp [clo] at hc
  | .imm fl sz n xs, h, v, F, hcl, l, r => by
    simp only [clo, Bool.and_eq_true, Bool.not_eq_true'] at hcl
    obtain ⟨rfl, hcx⟩ := hcl
    have hz : ZoneTo false E E' := fun f b hf hzz => by
      rcases hf with rfl | hf
      · exact l.zone b hzz
      · cases hf
    obtain ⟨rfl, h1⟩ := Rel.pure (.imm false sz n xs) (h' := h) hz (by simp [pur, hcx]) r
    exact h1
  | .inl sz n xs, h, v, F, hcl, l, r => by
    simp only [clo] at hcl
    simp only [Rel] at r ⊢
    obtain ⟨hl, b, o, cap, vs, F', rfl, hc, hk, rfl, ⟨c, ct, hb, hcs, hcx⟩, hat, hr⟩ := r
    have he := l.own b (by simp)
    exact ⟨hl, b, o, cap, vs, F', rfl, hc, hk, rfl, ⟨c, ct, he.trans hb, hcs, fun k q1 q2 hx => hcx k q1 q2 (l.prot b (by simp) k hx)⟩, hat.of_block he, RelL.over xs hcl (l.sub (by simp +contextual)) hr⟩
theorem RelL.over {E E' : Env} : ∀ (xs : List C) {g : Nat → List Nat → Key} {vs : List Value} {F : List Nat}, cloL xs = true → E.Over E' F → RelL E g xs vs F → RelL E' g xs vs F
  | [], _, _, _, _, _, r => by simpa only [RelL] using r
  | x :: xs, g, vs, F, hcl, l, r => by
    simp only [cloL, Bool.and_eq_true] at hcl
    simp only [RelL] at r ⊢
    obtain ⟨v, vs', F1, F2, rfl, rfl, h1, h2⟩ := r
    exact ⟨v, vs', F1, F2, rfl, rfl, Rel.over x hcl.1 (l.sub (by simp +contextual)) h1, RelL.over xs hcl.2 (l.sub (by simp +contextual)) h2⟩
end

section
variable {P : Program} {N : Nat} {a : Act} {E : Env}

/-- Blocks that no event owns. -/
structure Free (E : Env) (Fe : Id → List Nat) (F : List Nat) : Prop where
  nodup : F.Nodup
  out : ∀ b ∈ F, ∀ e, b ∉ Fe e
  lt : ∀ b ∈ F, b < E.w.heap.size
  zone : ∀ b ∈ F, ∀ fl, ¬ E.Z fl b

theorem Free.mono {Fe Fe' : Id → List Nat} {F : List Nat} (h : Free E Fe F) (hs : ∀ e, (Fe' e).Sublist (Fe e)) : Free E Fe' F :=
  ⟨h.nodup, fun b hb e he => h.out b hb e ((hs e).subset he), h.lt, h.zone⟩

theorem Free.sub {Fe : Id → List Nat} {F F' : List Nat} (h : Free E Fe F) (hs : F'.Sublist F) : Free E Fe F' :=
  ⟨hs.nodup h.nodup, fun b hb => h.out b (hs.subset hb), fun b hb => h.lt b (hs.subset hb), fun b hb => h.zone b (hs.subset hb)⟩

theorem Free.nil {Fe : Id → List Nat} : Free E Fe [] := ⟨List.nodup_nil, by simp, by simp, by simp⟩

/-- What a taking leaves: cells that lean on nothing, of blocks that were handed in or were the events'. -/
def Took (N : Nat) (a : Act) (E : Env) (s : St) (Fe : Id → List Nat) (F : List Nat) (cs : List C) (vs : List Value) (H' : Heap) : Prop :=
  ∃ g F' Fe', RelL E g cs vs F' ∧ cloL cs = true ∧ Free E Fe' F' ∧ (∀ b ∈ F', b ∈ F ∨ ∃ e, b ∈ Fe e) ∧ (∀ e, (Fe' e).Sublist (Fe e)) ∧ SR N { s with H := H' } a E Fe'

theorem inl_of_ref {e : Id} {p : List Nat} {k cap sz n lo : Nat} {zs : List C} {vs0 : List Value} {F0 : List Nat} {g : Nat → List Nat → Key} (hnc : n ≤ cap) (hl : zs.length = n * sz)
    (hk : cap * sz = 0 ∨ k = (E.G e p).2.1 + lo) (hcap : cap * sz = 0 ∨ lo + cap * sz ≤ (E.G e p).2.2) (hko : k ≤ (E.G e p).2.1 + (E.G e p).2.2)
    (hb : Blk E (E.G e p).1 (E.G e p).2.1 (E.G e p).2.2) (hat : At E.w (E.G e p).1 ((E.G e p).2.1 + lo) vs0) (hr : RelL E g zs vs0 F0) :
    Rel E (fun q => match q with | [] => ((E.G e p).1, k, cap * sz) | j :: q => g j q) (.inl sz n zs) (.slice (some ⟨(E.G e p).1, k, none⟩) n cap) ((E.G e p).1 :: F0) := by
  dsimp only [Rel]
  refine ⟨hl, _, _, cap, vs0, F0, rfl, hnc, rfl, rfl, ?_, ?_, hr⟩
  · obtain ⟨c, ct, hc, hcs, hcx⟩ := hb
    refine ⟨c, ct, hc, ?_, fun j q1 q2 => ?_⟩
    · rcases hcap with h0 | h0
      · omega
      · rcases hk with h5 | h5 <;> omega
    · rcases hcap with h0 | h0
      · omega
      · rcases hk with h5 | h5
        · omega
        · exact hcx j (by omega) (by omega)
  · rcases hk with h0 | h0
    · have hn0 : n * sz ≤ cap * sz := Nat.mul_le_mul_right _ hnc
      have : vs0 = [] := by rw [← List.length_eq_zero_iff, hr.length]; omega
      subst this
      intro i v hv
      simp at hv
    · rw [h0]; exact hat

theorem take_rel : ∀ (k : Nat) {s : St} {Fe : Id → List Nat} {cs cs' : List C} {vs : List Value} {g : Nat → List Nat → Key} {F : List Nat} {H' : Heap}, SR N s a E Fe → RelL E g cs vs F → Free E Fe F →
    takeL k s.H cs = some (cs', H') → Took N a E s Fe F cs' vs H'
  | 0, _, _, _, _, _, _, _, _, _, _, _, ht => by simp [takeL] at ht
  | k + 1, s, Fe, [], cs', vs, g, F, H', h, r, hF, ht => by
    simp only [takeL, Option.some.injEq, Prod.mk.injEq] at ht
    obtain ⟨rfl, rfl⟩ := ht
    simp only [RelL] at r
    obtain ⟨rfl, rfl⟩ := r
    exact ⟨g0, [], Fe, by simp [RelL], rfl, .nil, by simp, fun _ => List.Sublist.refl _, h⟩
  | k + 1, s, Fe, c :: cs, cs', vs, g, F, H', h, r, hF, ht => by
    simp only [RelL] at r
    obtain ⟨v, vs', F1, F2, rfl, rfl, h1, h2⟩ := r
    simp only [takeL] at ht
    split at ht
    · cases ht
    rename_i y H1 hy
    split at ht
    case h_2 => cases ht
    rename_i ys H2 hys
    simp only [Option.some.injEq, Prod.mk.injEq] at ht
    obtain ⟨rfl, rfl⟩ := ht
    have hF1 : Free E Fe F1 := hF.sub (List.sublist_append_left _ _)
    have hF2 : Free E Fe F2 := hF.sub (List.sublist_append_right _ _)
    have hd12 : ∀ b ∈ F1, b ∉ F2 := fun b hb hb' => (List.nodup_append.1 hF.nodup).2.2 b hb b hb' rfl
    -- the head
    have head : ∃ hh F1' Fe1, Rel E hh y v F1' ∧ clo y = true ∧ Free E Fe1 F1' ∧ (∀ b ∈ F1', b ∈ F1 ∨ ∃ e, b ∈ Fe e) ∧ (∀ e, (Fe1 e).Sublist (Fe e)) ∧ SR N { s with H := H1 } a E Fe1 := by
      unfold take1 at hy
      split at hy
      iterate 5
        · simp only [Option.some.injEq, Prod.mk.injEq] at hy
          obtain ⟨rfl, rfl⟩ := hy
          obtain ⟨rfl, h1'⟩ := h1.flat (h' := g0 0) rfl
          exact ⟨_, [], Fe, h1', rfl, .nil, by simp, fun _ => List.Sublist.refl _, h⟩
      · rename_i sz n xs
        simp only [Option.some.injEq, Prod.mk.injEq] at hy
        obtain ⟨rfl, rfl⟩ := hy
        obtain ⟨rfl, h1'⟩ := h1.flat (h' := g0 0) rfl
        refine ⟨_, [], Fe, h1', ?_, .nil, by simp, fun _ => List.Sublist.refl _, h⟩
        dsimp only [Rel] at h1'
        simp only [clo, Bool.not_false, Bool.true_and]
        exact h1'.2.2.1
      · rename_i sz n xs
        split at hy
        · rename_i zs H3 hz
          simp only [Option.some.injEq, Prod.mk.injEq] at hy
          obtain ⟨rfl, rfl⟩ := hy
          dsimp only [Rel] at h1
          obtain ⟨hl, b, o, cap, ws, F1', rfl, hc, hk, rfl, hb, hat, hr⟩ := h1
          obtain ⟨g', F3, Fe1, r1, r2, r3, r4, r5, r6⟩ := take_rel k h hr (hF1.sub (List.sublist_cons_self _ _)) hz
          have hbn : b ∉ F3 := fun hm => by
            rcases r4 b hm with h5 | ⟨e, h5⟩
            · exact (List.nodup_cons.1 hF1.nodup).1 h5
            · exact hF1.out b (by simp) e h5
          refine ⟨fun q => match q with | [] => (b, o, cap * sz) | j :: q => g' j q, b :: F3, Fe1, ?_, by simpa only [clo] using r2, ⟨List.nodup_cons.2 ⟨hbn, r3.nodup⟩, ?_, ?_, ?_⟩, ?_, r5, r6⟩
          · dsimp only [Rel]
            exact ⟨by rw [← r1.length, hr.length, hl], b, o, cap, ws, F3, rfl, hc, rfl, rfl, hb, hat, r1⟩
          · intro b' hb' e he
            rcases List.mem_cons.1 hb' with rfl | hb'
            · exact hF1.out b' (by simp) e ((r5 e).subset he)
            · exact r3.out b' hb' e he
          · intro b' hb'
            rcases List.mem_cons.1 hb' with rfl | hb'
            · exact hF1.lt b' (by simp)
            · exact r3.lt b' hb'
          · intro b' hb'
            rcases List.mem_cons.1 hb' with rfl | hb'
            · exact hF1.zone b' (by simp)
            · exact r3.zone b' hb'
          · intro b' hb'
            rcases List.mem_cons.1 hb' with rfl | hb'
            · exact .inl (by simp)
            · exact (r4 b' hb').imp (fun h5 => by simp [h5]) id
        · cases hy
      · rename_i e p sz lo n
        obtain ⟨rfl, h1'⟩ := h1.flat (h' := g0 0) rfl
        dsimp only [Rel] at h1'
        obtain ⟨_, ha, kk, cap, rfl, hnc, hk, hcap, hko⟩ := h1'
        split at hy
        case h_2 => cases hy
        rename_i xs hg
        split at hy
        case h_2 => cases hy
        rename_i us H3 hcut hkill
        split at hy
        case h_2 => cases hy
        rename_i zs H4 hz
        simp only [Option.some.injEq, Prod.mk.injEq] at hy
        obtain ⟨rfl, rfl⟩ := hy
        obtain ⟨F0, Fe0, hnode, hsub0, hdis0, hsub1, hSR1⟩ := h.kill ha hg hkill
        have hnd0 : F0.Nodup := hsub0.nodup (h.nodup e)
        obtain ⟨ws, F0', rfl, hblk, hle, hat, hr⟩ := hnode
        simp only [List.append_nil] at hblk hle hat hsub0 hdis0 hnd0
        obtain ⟨vs1, vs2, vs3, Fa, Fb, Fc, rfl, hl1, rfl, _, hr2, _⟩ := hr.cut hcut
        have hat2 := hat.mid
        rw [hl1] at hat2
        have hFb : Fb.Sublist (Fa ++ (Fb ++ Fc)) := (List.sublist_append_left Fb Fc).trans (List.sublist_append_right Fa _)
        have hfree : Free E Fe0 Fb := ⟨hFb.nodup (List.nodup_cons.1 hnd0).2, fun b hb e2 => hdis0 b (by simp [hFb.subset hb]) e2, fun b hb => h.size e b (hsub0.subset (by simp [hFb.subset hb])),
          fun b hb fl hzz => h.zone fl b hzz e (hsub0.subset (by simp [hFb.subset hb]))⟩
        obtain ⟨g', F3, Fe1, r1, r2, r3, r4, r5, r6⟩ := take_rel k hSR1 hr2 hfree hz
        have hbe : (E.G e p).1 ∈ Fe e := hsub0.subset (by simp)
        have hbn : (E.G e p).1 ∉ F3 := fun hm => by
          rcases r4 _ hm with h5 | ⟨e2, h5⟩
          · exact (List.nodup_cons.1 hnd0).1 (hFb.subset h5)
          · exact hdis0 _ (by simp) e2 h5
        have hzl : zs.length = n * sz := by rw [← r1.length, hr2.length, (cut_some hcut).2]; have := (cut_some hcut).1; simp; omega
        refine ⟨_, (E.G e p).1 :: F3, Fe1, inl_of_ref hnc hzl hk hcap hko hblk hat2 r1, by simpa only [clo] using r2, ⟨List.nodup_cons.2 ⟨hbn, r3.nodup⟩, ?_, ?_, ?_⟩, ?_, fun e2 => (r5 e2).trans (hsub1 e2), r6⟩
        · intro b' hb' e2 he
          rcases List.mem_cons.1 hb' with rfl | hb'
          · exact hdis0 _ (by simp) e2 ((r5 e2).subset he)
          · exact r3.out b' hb' e2 he
        · intro b' hb'
          rcases List.mem_cons.1 hb' with rfl | hb'
          · exact h.size e _ hbe
          · exact r3.lt b' hb'
        · intro b' hb'
          rcases List.mem_cons.1 hb' with rfl | hb'
          · exact fun fl hzz => h.zone fl _ hzz e hbe
          · exact r3.zone b' hb'
        · intro b' hb'
          rcases List.mem_cons.1 hb' with rfl | hb'
          · exact .inr ⟨e, hbe⟩
          · rcases r4 b' hb' with h5 | ⟨e2, h5⟩
            · exact .inr ⟨e, hsub0.subset (by simp [hFb.subset h5])⟩
            · exact .inr ⟨e2, (hsub1 e2).subset h5⟩
      · cases hy
    obtain ⟨hh, F1', Fe1, q1, q2, q3, q4, q5, q6⟩ := head
    obtain ⟨g', F2', Fe2, r1, r2, r3, r4, r5, r6⟩ := take_rel k q6 h2 (hF2.mono q5) hys
    refine ⟨fun j => match j with | 0 => hh | j + 1 => g' j, F1' ++ F2', Fe2, ?_, by simp only [cloL, q2, r2, Bool.and_self], ⟨?_, ?_, ?_, ?_⟩, ?_, fun e => (r5 e).trans (q5 e), r6⟩
    · simp only [RelL]
      exact ⟨v, vs', F1', F2', rfl, rfl, q1, r1⟩
    · refine List.nodup_append.2 ⟨q3.nodup, r3.nodup, fun b hb b' hb' hbb => ?_⟩
      subst hbb
      rcases r4 b hb' with h5 | ⟨e, h5⟩
      · rcases q4 b hb with h6 | ⟨e, h6⟩
        · exact hd12 b h6 h5
        · exact hF2.out b h5 e h6
      · exact q3.out b hb e h5
    · intro b hb e he
      rcases List.mem_append.1 hb with hb | hb
      · exact q3.out b hb e ((r5 e).subset he)
      · exact r3.out b hb e he
    · intro b hb
      rcases List.mem_append.1 hb with hb | hb
      · exact q3.lt b hb
      · exact r3.lt b hb
    · intro b hb
      rcases List.mem_append.1 hb with hb | hb
      · exact q3.zone b hb
      · exact r3.zone b hb
    · intro b hb
      rcases List.mem_append.1 hb with hb | hb
      · exact (q4 b hb).imp (fun h5 => by simp [h5]) id
      · rcases r4 b hb with h5 | ⟨e, h5⟩
        · exact .inl (by simp [h5])
        · exact .inr ⟨e, (q5 e).subset h5⟩

end
end Go.Proofs.Ytgodaiiegcdpcaa.Abs
end
section
set_option linter.unusedVariables false
set_option linter.unusedSimpArgs false
namespace Go.Proofs.Ytgodaiiegcdpcaa.Abs
section
variable {P : Program} {N : Nat} {a : Act}

/-- Nothing of the world turns, only the books grow. -/
structure Env.Ghost (E E' : Env) : Prop where
  w : E'.w = E.w
  keeps : E.Keeps E'
  Z : E'.Z = E.Z
  X : E'.X = E.X

theorem Env.Ghost.refl (E : Env) : E.Ghost E := ⟨rfl, .refl E, rfl, rfl⟩
theorem Env.Ghost.trans {E1 E2 E3 : Env} (h : E1.Ghost E2) (k : E2.Ghost E3) : E1.Ghost E3 :=
  ⟨k.w.trans h.w, h.keeps.trans k.keeps, k.Z.trans h.Z, k.X.trans h.X⟩

theorem Free.ghost {E E' : Env} {Fe : Id → List Nat} {F : List Nat} (g : E.Ghost E') (h : Free E Fe F) : Free E' Fe F :=
  ⟨h.nodup, h.out, fun b hb => by rw [g.w]; exact h.lt b hb, fun b hb fl => by rw [g.Z]; exact h.zone b hb fl⟩

/-- One node that comes in. -/
theorem SR.bring1 {s : St} {E : Env} {Fe : Id → List Nat} (h : SR N s a E Fe) {i : Id} (hi : ¬ E.Al i) {hh : List Nat → Key} {xs : List C} {F : List Nat} (hn : NodeAt E hh xs F) (hF : Free E Fe F) :
    ∃ E', E.Ghost E' ∧ E'.G i = hh ∧ (∀ e, E'.Al e ↔ E.Al e ∨ e = i) ∧ SR N { s with H := upd s.H i (some xs) } a E' (upd Fe i F) := by
  let E' : Env := { w := E.w, Z := E.Z, G := upd E.G i hh, Al := fun e => E.Al e ∨ e = i, X := E.X }
  have hk : E.Keeps E' := by
    refine ⟨fun fl b hz => ⟨hz, rfl⟩, fun e p hae => ?_, fun e hae => .inl hae, fun _ _ hx => hx⟩
    have : e ≠ i := fun he => hi (he ▸ hae)
    show upd E.G i _ e p = _
    rw [upd_ne _ _ this]
  have hG : E'.G i = hh := upd_same _ _ _
  refine ⟨E', ⟨rfl, hk, rfl, rfl⟩, hG, fun e => Iff.rfl, ?_⟩
  refine h.add (E' := E') hi hk rfl (fun e => Iff.rfl) (Nat.le_refl _) (fun _ _ _ => rfl) (by rw [hG]; exact hn.mono ⟨hk, fun _ _ => rfl⟩) hF.nodup
    (fun b hb => ⟨hF.out b hb, hF.lt b hb, hF.zone b hb⟩)

theorem bring_rel (i : Nat × Nat × Nat) : ∀ {cs : List C} {k : Nat} {s : St} {E : Env} {Fe : Id → List Nat} {vs : List Value} {g : Nat → List Nat → Key} {F : List Nat}, SR N s a E Fe → RelL E g cs vs F → Free E Fe F →
    (∀ k', k ≤ k' → ¬ E.Al (i.1, i.2.1, i.2.2, k')) →
    ∃ E' Fe', E.Ghost E' ∧ (∀ e, E'.Al e → E.Al e ∨ ∃ k', k ≤ k' ∧ k' < k + cs.length ∧ e = (i.1, i.2.1, i.2.2, k')) ∧ SR N { s with H := (bring i k s.H cs).2 } a E' Fe' ∧ RelL E' g0 (bring i k s.H cs).1 vs [] ∧
      (∀ e b, b ∈ Fe' e → b ∈ Fe e ∨ b ∈ F)
  | [], k, s, E, Fe, vs, g, F, h, r, hF, _ => by
    simp only [RelL] at r
    obtain ⟨rfl, rfl⟩ := r
    exact ⟨E, Fe, .refl E, fun e he => .inl he, h, by simp [bring, RelL], fun e b hb => .inl hb⟩
  | c :: cs, k, s, E, Fe, vs, g, F, h, r, hF, hfr => by
    simp only [RelL] at r
    obtain ⟨v, vs', F1, F2, rfl, rfl, h1, h2⟩ := r
    have hF1 : Free E Fe F1 := hF.sub (List.sublist_append_left _ _)
    have hF2 : Free E Fe F2 := hF.sub (List.sublist_append_right _ _)
    have hd12 : ∀ b ∈ F1, b ∉ F2 := fun b hb hb' => (List.nodup_append.1 hF.nodup).2.2 b hb b hb' rfl
    -- a node comes in, then the rest
    have node : ∀ {xs : List C} {c' : C}, NodeAt E (g 0) xs F1 → bring i k s.H (c :: cs) = (c' :: (bring i (k + 1) (upd s.H (i.1, i.2.1, i.2.2, k) (some xs)) cs).1, (bring i (k + 1) (upd s.H (i.1, i.2.1, i.2.2, k) (some xs)) cs).2) →
        (∀ E1 : Env, E1.G (i.1, i.2.1, i.2.2, k) = g 0 → E1.Al (i.1, i.2.1, i.2.2, k) → Rel E1 (g0 0) c' v []) → ∃ E' Fe', E.Ghost E' ∧ (∀ e, E'.Al e → E.Al e ∨ ∃ k', k ≤ k' ∧ k' < k + (c :: cs).length ∧ e = (i.1, i.2.1, i.2.2, k')) ∧
          SR N { s with H := (bring i k s.H (c :: cs)).2 } a E' Fe' ∧ RelL E' g0 (bring i k s.H (c :: cs)).1 (v :: vs') [] ∧ (∀ e b, b ∈ Fe' e → b ∈ Fe e ∨ b ∈ F1 ++ F2) := by
      intro xs c' hn he hc'
      obtain ⟨E1, hg1, hG1, hal1, hSR1⟩ := h.bring1 (hfr k (Nat.le_refl _)) hn hF1
      have hF2' : Free E1 (upd Fe (i.1, i.2.1, i.2.2, k) F1) F2 := by
        refine (Free.ghost hg1 ⟨hF2.nodup, fun b hb e hbe => ?_, hF2.lt, hF2.zone⟩)
        by_cases hei : e = (i.1, i.2.1, i.2.2, k)
        · subst hei
          simp only [upd_same] at hbe
          exact hd12 b hbe hb
        · rw [upd_ne _ _ hei] at hbe
          exact hF2.out b hb e hbe
      obtain ⟨E', Fe', hg2, hal2, hSR2, hr2, hf2⟩ := bring_rel i (cs := cs) (k := k + 1) hSR1 (RelL.mono cs ⟨hg1.keeps, fun _ _ => by rw [hg1.w]⟩ h2) hF2' (fun k' hk' ha => by
        rcases (hal1 _).1 ha with h5 | h5
        · exact hfr k' (by omega) h5
        · simp only [Prod.mk.injEq] at h5
          omega)
      rw [he]
      refine ⟨E', Fe', hg1.trans hg2, fun e hae => ?_, hSR2, ?_, fun e b hb => ?_⟩
      · rcases hal2 e hae with h5 | ⟨k', q1, q2, q3⟩
        · rcases (hal1 e).1 h5 with h6 | h6
          · exact .inl h6
          · exact .inr ⟨k, Nat.le_refl _, by simp, h6⟩
        · exact .inr ⟨k', by omega, by simp; omega, q3⟩
      · simp only [RelL]
        refine ⟨v, vs', [], [], rfl, rfl, ?_, hr2⟩
        have ha1 : E1.Al (i.1, i.2.1, i.2.2, k) := (hal1 _).2 (.inr rfl)
        exact Rel.mono c' hg2.keeps.le (hc' E1 hG1 ha1)
      · rcases hf2 e b hb with h5 | h5
        · by_cases hei : e = (i.1, i.2.1, i.2.2, k)
          · subst hei
            simp only [upd_same] at h5
            exact .inr (by simp [h5])
          · rw [upd_ne _ _ hei] at h5
            exact .inl h5
        · exact .inr (by simp [h5])
    have plain : Abs.flat c = true → bring i k s.H (c :: cs) = (c :: (bring i (k + 1) s.H cs).1, (bring i (k + 1) s.H cs).2) → ∃ E' Fe', E.Ghost E' ∧ (∀ e, E'.Al e → E.Al e ∨ ∃ k', k ≤ k' ∧ k' < k + (c :: cs).length ∧ e = (i.1, i.2.1, i.2.2, k')) ∧
          SR N { s with H := (bring i k s.H (c :: cs)).2 } a E' Fe' ∧ RelL E' g0 (bring i k s.H (c :: cs)).1 (v :: vs') [] ∧ (∀ e b, b ∈ Fe' e → b ∈ Fe e ∨ b ∈ F1 ++ F2) := by
      intro hfl he
      obtain ⟨E', Fe', hg2, hal2, hSR2, hr2, hf2⟩ := bring_rel i (cs := cs) (k := k + 1) h h2 hF2 (fun k' hk' => hfr k' (by omega))
      rw [he]
      refine ⟨E', Fe', hg2, fun e hae => ?_, hSR2, ?_, fun e b hb => ?_⟩
      · rcases hal2 e hae with h5 | ⟨k', q1, q2, q3⟩
        · exact .inl h5
        · exact .inr ⟨k', by omega, by simp; omega, q3⟩
      · simp only [RelL]
        exact ⟨v, vs', [], [], rfl, rfl, Rel.mono c hg2.keeps.le (h1.flat hfl).2, hr2⟩
      · exact (hf2 e b hb).imp id (fun h5 => by simp [h5])
    cases c with
    | inl sz n xs =>
      obtain ⟨cap, rfl, hc, hk, hl, hn⟩ := h1.node
      refine node hn rfl (fun E1 hG hA => ?_)
      dsimp only [Rel]
      rw [hG]
      exact ⟨rfl, hA, _, cap, rfl, hc, .inr rfl, .inr (by rw [hk]; simp), by simp⟩
    | int _ _ => exact plain rfl rfl
    | bool _ => exact plain rfl rfl
    | str _ => exact plain rfl rfl
    | nils => exact plain rfl rfl
    | imm _ _ _ _ => exact plain rfl rfl
    | ref _ _ _ _ _ => exact plain rfl rfl
    | ptr _ _ _ => exact plain rfl rfl
    | iptr _ _ _ => exact plain rfl rfl
    | nilp => exact plain rfl rfl
    | dead => exact plain rfl rfl

end
end Go.Proofs.Ytgodaiiegcdpcaa.Abs
end
section
set_option linter.unusedVariables false
set_option linter.unusedSimpArgs false
namespace Go.Proofs.Ytgodaiiegcdpcaa.Abs

theorem RelL.two {E : Env} : ∀ {xs : List C} {g : Nat → List Nat → Key} {vs : List Value} {F : List Nat} {i j : Nat} {x y : C}, RelL E g xs vs F → F.Nodup → i < j → xs[i]? = some x → xs[j]? = some y →
    ∃ u v F1 F2, Rel E (g i) x u F1 ∧ Rel E (g j) y v F2 ∧ F1.Sublist F ∧ F2.Sublist F ∧ ∀ b ∈ F1, b ∉ F2
  | [], _, _, _, _, _, _, _, _, _, _, hx, _ => by simp at hx
  | z :: xs, g, vs, F, i, j, x, y, r, hn, hij, hx, hy => by
    simp only [RelL] at r
    obtain ⟨v, vs', F1, F2, rfl, rfl, h1, h2⟩ := r
    obtain ⟨j, rfl⟩ : ∃ j', j = j' + 1 := ⟨j - 1, by omega⟩
    simp only [List.getElem?_cons_succ] at hy
    cases i with
    | zero =>
      simp only [List.getElem?_cons_zero, Option.some.injEq] at hx
      subst hx
      obtain ⟨u, F3, _, hr, hs⟩ := h2.get hy
      exact ⟨v, u, F1, F3, h1, hr, List.sublist_append_left _ _, hs.trans (List.sublist_append_right _ _), fun b hb hb' => (List.nodup_append.1 hn).2.2 b hb b (hs.subset hb') rfl⟩
    | succ i =>
      simp only [List.getElem?_cons_succ] at hx
      obtain ⟨u, w, F3, F4, r1, r2, s1, s2, hd⟩ := h2.two (List.nodup_append.1 hn).2.1 (by omega) hx hy
      exact ⟨u, w, F3, F4, r1, r2, s1.trans (List.sublist_append_right _ _), s2.trans (List.sublist_append_right _ _), hd⟩

theorem walk_block {E : Env} {h : List Nat → Key} {xs ys : List C} {F : List Nat} {q : List Nat} (r : NodeAt E h xs F) (hw : walk q xs = some ys) : (h q).1 ∈ F := by
  obtain ⟨Fy, ⟨vs, F', e, _⟩, hs⟩ := node_walk r hw
  refine hs.subset ?_
  rw [e]
  simp

theorem node_inj {E : Env} : ∀ {p q : List Nat} {h : List Nat → Key} {xs ys zs : List C} {F : List Nat}, NodeAt E h xs F → F.Nodup → walk p xs = some ys → walk q xs = some zs → (h p).1 = (h q).1 → p = q
  | [], [], _, _, _, _, _, _, _, _, _, _ => rfl
  | [], j :: q, h, xs, ys, zs, F, r, hn, h1, h2, he => by
    exfalso
    obtain ⟨vs, F', rfl, hb, hx, hat, hr⟩ := r
    simp only [walk] at h2
    split at h2
    · rename_i sz n us hj
      obtain ⟨v, F1, _, hrel, hs⟩ := hr.get hj
      obtain ⟨cap, _, _, _, _, hnode⟩ := hrel.node
      have := hs.subset (walk_block hnode h2)
      exact (List.nodup_cons.1 hn).1 (by rw [he]; exact this)
    · cases h2
  | i :: p, [], h, xs, ys, zs, F, r, hn, h1, h2, he => by
    exfalso
    obtain ⟨vs, F', rfl, hb, hx, hat, hr⟩ := r
    simp only [walk] at h1
    split at h1
    · rename_i sz n us hj
      obtain ⟨v, F1, _, hrel, hs⟩ := hr.get hj
      obtain ⟨cap, _, _, _, _, hnode⟩ := hrel.node
      have := hs.subset (walk_block hnode h1)
      exact (List.nodup_cons.1 hn).1 (by rw [← he]; exact this)
    · cases h1
  | i :: p, j :: q, h, xs, ys, zs, F, r, hn, h1, h2, he => by
    obtain ⟨vs, F', rfl, hb, hx, hat, hr⟩ := r
    have hn' := (List.nodup_cons.1 hn).2
    simp only [walk] at h1 h2
    split at h1
    case h_2 => cases h1
    rename_i sz n us hi
    split at h2
    case h_2 => cases h2
    rename_i sz2 n2 us2 hj
    by_cases hij : i = j
    · subst hij
      rw [hi] at hj
      cases hj
      obtain ⟨v, F1, _, hrel, hs⟩ := hr.get hi
      obtain ⟨cap, _, _, _, _, hnode⟩ := hrel.node
      rw [node_inj hnode (hs.nodup hn') h1 h2 he]
    · exfalso
      rcases Nat.lt_or_gt_of_ne hij with hlt | hlt
      · obtain ⟨u, v, F1, F2, r1, r2, _, _, hd⟩ := hr.two hn' hlt hi hj
        obtain ⟨_, _, _, _, _, n1⟩ := r1.node
        obtain ⟨_, _, _, _, _, n2⟩ := r2.node
        exact hd _ (walk_block n1 h1) (by have := walk_block n2 h2; rw [he]; exact this)
      · obtain ⟨u, v, F1, F2, r1, r2, _, _, hd⟩ := hr.two hn' hlt hj hi
        obtain ⟨_, _, _, _, _, n1⟩ := r1.node
        obtain ⟨_, _, _, _, _, n2⟩ := r2.node
        exact hd _ (walk_block n1 h2) (by have := walk_block n2 h1; rw [← he]; exact this)

/-- Nodes only go, and what is taken of them stays taken. -/
def Shr (H H' : Heap) : Prop := ∀ (e : Id) (q : List Nat) (ys' : List C), getN H' e q = some ys' → ∃ ys : List C, getN H e q = some ys ∧ ∀ i : Nat, ys[i]? = some C.dead → ys'[i]? = some C.dead

theorem Shr.refl (H : Heap) : Shr H H := fun _ _ ys h => ⟨ys, h, fun _ hi => hi⟩
theorem Shr.trans {H1 H2 H3 : Heap} (h : Shr H1 H2) (k : Shr H2 H3) : Shr H1 H3 := fun e q ys hy => by
  obtain ⟨y2, h2, d2⟩ := k e q ys hy
  obtain ⟨y1, h1, d1⟩ := h e q y2 h2
  exact ⟨y1, h1, fun i hi => d2 i (d1 i hi)⟩

theorem turn_shr {f : List C → Option (List C)} (hf : ∀ ys ys', f ys = some ys' → ∀ i : Nat, ys'[i]? = ys[i]? ∨ ys'[i]? = some .dead) :
    ∀ {p q : List Nat} {xs xs' ys' : List C}, turn f p xs = some xs' → walk q xs' = some ys' → ∃ ys, walk q xs = some ys ∧ ∀ i : Nat, ys[i]? = some .dead → ys'[i]? = some .dead
  | [], [], xs, xs', ys', ht, hw => by
    simp only [walk, Option.some.injEq] at hw
    subst hw
    refine ⟨xs, rfl, fun i hi => ?_⟩
    rcases hf _ _ ht i with h | h
    · rw [h]; exact hi
    · exact h
  | [], j :: q, xs, xs', ys', ht, hw => by
    simp only [walk] at hw
    split at hw
    · rename_i sz n us hj
      rcases hf _ _ ht j with h | h
      · rw [hj] at h
        exact ⟨ys', by simp only [walk, ← h]; exact hw, fun i hi => hi⟩
      · rw [hj] at h; cases h
    · cases hw
  | k :: p, [], xs, xs', ys', ht, hw => by
    simp only [walk, Option.some.injEq] at hw
    subst hw
    simp only [turn] at ht
    split at ht
    · rename_i sz n us hk
      split at ht
      · rename_i zs hz
        simp only [Option.some.injEq] at ht
        subst ht
        refine ⟨xs, rfl, fun i hi => ?_⟩
        by_cases hik : k = i
        · subst hik; rw [hk] at hi; cases hi
        · rw [List.getElem?_set_ne hik]; exact hi
      · cases ht
    · cases ht
  | k :: p, j :: q, xs, xs', ys', ht, hw => by
    simp only [turn] at ht
    split at ht
    case h_2 => cases ht
    rename_i sz n us hk
    split at ht
    case h_2 => cases ht
    rename_i zs hz
    simp only [Option.some.injEq] at ht
    subst ht
    have hlt : k < xs.length := (List.getElem?_eq_some_iff.1 hk).1
    simp only [walk] at hw ⊢
    by_cases hkj : k = j
    · subst hkj
      rw [List.getElem?_set_self hlt] at hw
      rw [hk]
      exact turn_shr hf hz hw
    · rw [List.getElem?_set_ne hkj] at hw
      split at hw
      · rename_i sz2 n2 us2 hj
        exact ⟨ys', hw, fun i hi => hi⟩
      · cases hw

theorem turnN_shr {f : List C → Option (List C)} (hf : ∀ ys ys', f ys = some ys' → ∀ i : Nat, ys'[i]? = ys[i]? ∨ ys'[i]? = some .dead) {H H' : Heap} {e : Id} {p : List Nat} (h : turnN H e p f = some H') : Shr H H' := by
  unfold turnN at h
  split at h
  · rename_i xs hx
    split at h
    · rename_i ys hy
      simp only [Option.some.injEq] at h
      subst h
      intro e2 q zs hz
      unfold getN at hz ⊢
      by_cases he : e2 = e
      · subst he
        simp only [upd_same] at hz
        simp only [hx]
        exact turn_shr hf hy hz
      · rw [upd_ne _ _ he] at hz
        exact ⟨zs, hz, fun i hi => hi⟩
    · cases h
  · cases h

theorem none_shr (H : Heap) (e : Id) : Shr H (upd H e none) := by
  intro e2 q zs hz
  unfold getN at hz ⊢
  by_cases he : e2 = e
  · subst he; simp at hz
  · rw [upd_ne _ _ he] at hz
    exact ⟨zs, hz, fun i hi => hi⟩

theorem kill_shr {H H' : Heap} {e : Id} {p : List Nat} (h : kill H e p = some H') : Shr H H' := by
  cases p with
  | nil => simp only [kill, Option.some.injEq] at h; subst h; exact none_shr H e
  | cons j q =>
    simp only [kill] at h
    refine turnN_shr (fun ys ys' hh i => ?_) h
    split at hh
    · simp only [Option.some.injEq] at hh
      subst hh
      by_cases hi : (j :: q).getLast (by simp) = i
      · subst hi
        right
        rw [List.getElem?_set_self (by assumption)]
      · left; rw [List.getElem?_set_ne hi]
    · cases hh

theorem take_shr : ∀ {k : Nat} {H H' : Heap} {cs cs' : List C}, takeL k H cs = some (cs', H') → Shr H H'
  | 0, _, _, _, _, h => by simp [takeL] at h
  | k + 1, H, H', [], cs', h => by simp only [takeL, Option.some.injEq, Prod.mk.injEq] at h; rw [h.2]; exact .refl _
  | k + 1, H, H', c :: cs, cs', h => by
    simp only [takeL] at h
    split at h
    · cases h
    rename_i y H1 hy
    split at h
    case h_2 => cases h
    rename_i ys H2 hys
    simp only [Option.some.injEq, Prod.mk.injEq] at h
    obtain ⟨rfl, rfl⟩ := h
    refine Shr.trans ?_ (take_shr hys)
    unfold take1 at hy
    split at hy
    iterate 6
      · simp only [Option.some.injEq, Prod.mk.injEq] at hy
        rw [hy.2]; exact .refl _
    · split at hy
      · rename_i hz
        simp only [Option.some.injEq, Prod.mk.injEq] at hy
        obtain ⟨_, rfl⟩ := hy
        exact take_shr hz
      · cases hy
    · split at hy
      case h_2 => cases hy
      split at hy
      case h_2 => cases hy
      rename_i hkill
      split at hy
      case h_2 => cases hy
      rename_i hz
      simp only [Option.some.injEq, Prod.mk.injEq] at hy
      obtain ⟨_, rfl⟩ := hy
      exact (kill_shr hkill).trans (take_shr hz)
    · cases hy

end Go.Proofs.Ytgodaiiegcdpcaa.Abs
end
section
set_option linter.unusedVariables false
set_option linter.unusedSimpArgs false
namespace Go.Proofs.Ytgodaiiegcdpcaa.Abs

/-- A node some of whose cells somebody else has written: those are dead; the others read as before. -/
def HoleOK (E E2 : Env) (key : Key) (ys : List C) : Prop :=
  (∀ (c : Array Value) (t : TypeId), E.w.heap[key.1]? = some (.cells c t (0, 0)) → ∃ c' : Array Value, E2.w.heap[key.1]? = some (.cells c' t (0, 0)) ∧ c'.size = c.size) ∧
  ∀ (i : Nat) (x : C), ys[i]? = some x → x = .dead ∨ E2.w.cell? ⟨key.1, key.2.1 + i, none⟩ = E.w.cell? ⟨key.1, key.2.1 + i, none⟩

/-- The cells that lie now where a node lies. -/
def cellsNow (w : World) (b o : Nat) (vs : List Value) : List Value := vs.mapIdx fun i v => (w.cell? ⟨b, o + i, none⟩).getD v

theorem now_length {w : World} {b o : Nat} {vs : List Value} : (cellsNow w b o vs).length = vs.length := by simp [cellsNow]

theorem now_at {w w2 : World} {b o : Nat} {vs : List Value} {c c' : Array Value} {t : TypeId} (hat : At w b o vs) (h1 : w.heap[b]? = some (.cells c t (0, 0))) (h2 : w2.heap[b]? = some (.cells c' t (0, 0))) (hs : c'.size = c.size) :
    At w2 b o (cellsNow w2 b o vs) := by
  intro i v hv
  simp only [cellsNow, List.getElem?_mapIdx] at hv
  cases hi : vs[i]? with
  | none => simp [hi] at hv
  | some u =>
    simp only [hi, Option.map_some, Option.some.injEq] at hv
    have hlt := hat.fits h1 (List.getElem?_eq_some_iff.1 hi).1
    have : w2.cell? ⟨b, o + i, none⟩ = some c'[o + i] := by
      simp [World.cell?, h2, hs, hlt]
    rw [this] at hv ⊢
    simpa using hv

section
variable {E E2 : Env} {bad : Nat → Prop}

mutual
theorem Rel.hole (hk : E.Keeps E2) (hg : ∀ b, ¬ bad b → E2.w.heap[b]? = E.w.heap[b]?) : ∀ (x : C) {h : List Nat → Key} {v : Value} {F : List Nat}, Rel E h x v F →
    (∀ sz n xs, x = .inl sz n xs → ∀ q ys, walk q xs = some ys → bad (h q).1 → HoleOK E E2 (h q) ys) → Rel E2 h x v F
  | .int k n, _, _, _, r, _ => by simpa only [Rel] using r
  | .bool b, _, _, _, r, _ => by simpa only [Rel] using r
  | .str s, _, _, _, r, _ => by simpa only [Rel] using r
  | .nils, _, _, _, r, _ => by simpa only [Rel] using r
  | .nilp, _, _, _, r, _ => by simpa only [Rel] using r
  | .dead, _, _, _, r, _ => by simpa only [Rel] using r
  | .imm fl sz n xs, h, v, F, r, _ => by
    obtain ⟨rfl, _⟩ := r.flat (h' := h) rfl
    exact Rel.mono _ hk.le r
  | .iptr fl xs off, h, v, F, r, _ => by
    obtain ⟨rfl, _⟩ := r.flat (h' := h) rfl
    exact Rel.mono _ hk.le r
  | .ref e p sz lo n, h, v, F, r, _ => by
    obtain ⟨rfl, _⟩ := r.flat (h' := h) rfl
    exact Rel.mono _ hk.le r
  | .ptr e p off, h, v, F, r, _ => by
    obtain ⟨rfl, _⟩ := r.flat (h' := h) rfl
    exact Rel.mono _ hk.le r
  | .inl sz n xs, h, v, F, r, hh => by
    dsimp only [Rel] at r ⊢
    obtain ⟨hl, b, o, cap, vs, F', rfl, hc, hkk, rfl, ⟨c, ct, hb, hcs, hcx⟩, hat, hr⟩ := r
    have nest : ∀ (vs' : List Value), vs'.length = vs.length → (∀ (i : Nat) x, xs[i]? = some x → x = .dead ∨ vs'[i]? = vs[i]?) → RelL E2 (fun j q => h (j :: q)) xs vs' F' := fun vs' hl' hv' =>
      RelL.hole hk hg xs hr hl' hv' (fun j sz2 n2 zs hj q ys hw => hh sz n xs rfl (j :: q) ys (by simp only [walk, hj]; exact hw))
    by_cases hbad : bad b
    · obtain ⟨q1, q2⟩ := hh sz n xs rfl [] xs rfl (by rw [hkk]; exact hbad)
      rw [hkk] at q1 q2
      obtain ⟨c', hc', hcs'⟩ := q1 c ct hb
      refine ⟨hl, b, o, cap, cellsNow E2.w b o vs, F', rfl, hc, hkk, rfl, ⟨c', ct, hc', by omega, fun k p1 p2 hx => hcx k p1 p2 (hk.prot b k hx)⟩, now_at hat hb hc' hcs', nest _ now_length fun i x hx => ?_⟩
      rcases q2 i x hx with h1 | h1
      · exact .inl h1
      · right
        simp only [cellsNow, List.getElem?_mapIdx]
        cases hi : vs[i]? with
        | none => rfl
        | some u =>
          have := hat i u hi
          simp only at h1
          rw [this] at h1
          simp [h1]
    · have he := hg b hbad
      exact ⟨hl, b, o, cap, vs, F', rfl, hc, hkk, rfl, ⟨c, ct, he.trans hb, hcs, fun k p1 p2 hx => hcx k p1 p2 (hk.prot b k hx)⟩, hat.of_block he, nest vs rfl fun i x hx => .inr rfl⟩
theorem RelL.hole (hk : E.Keeps E2) (hg : ∀ b, ¬ bad b → E2.w.heap[b]? = E.w.heap[b]?) : ∀ (xs : List C) {g : Nat → List Nat → Key} {vs vs' : List Value} {F : List Nat}, RelL E g xs vs F →
    vs'.length = vs.length → (∀ (i : Nat) x, xs[i]? = some x → x = .dead ∨ vs'[i]? = vs[i]?) →
    (∀ j sz n zs, xs[j]? = some (.inl sz n zs) → ∀ q ys, walk q zs = some ys → bad (g j q).1 → HoleOK E E2 (g j q) ys) → RelL E2 g xs vs' F
  | [], g, vs, vs', F, r, hl, hv, hh => by
    simp only [RelL] at r ⊢
    obtain ⟨rfl, rfl⟩ := r
    exact ⟨List.length_eq_zero_iff.1 (by simpa using hl), rfl⟩
  | x :: xs, g, vs, vs', F, r, hl, hv, hh => by
    simp only [RelL] at r ⊢
    obtain ⟨v, ws, F1, F2, rfl, rfl, h1, h2⟩ := r
    cases vs' with
    | nil => simp at hl
    | cons u us =>
      refine ⟨u, us, F1, F2, rfl, rfl, ?_, RelL.hole hk hg xs h2 (by simpa using hl) (fun i x hx => ?_) (fun j sz n zs hj q ys hw => hh (j + 1) sz n zs (by simpa using hj) q ys hw)⟩
      · have h0 := Rel.hole hk hg x h1 (fun sz n zs hx q ys hw => hh 0 sz n zs (by simp [hx]) q ys hw)
        rcases hv 0 x rfl with rfl | h3
        · dsimp only [Rel] at h0 ⊢
          exact h0
        · simp only [List.getElem?_cons_zero, Option.some.injEq] at h3
          rw [h3]; exact h0
      · have := hv (i + 1) x (by simpa using hx)
        simpa using this
end

theorem NodeAt.hole (hk : E.Keeps E2) (hg : ∀ b, ¬ bad b → E2.w.heap[b]? = E.w.heap[b]?) {h : List Nat → Key} {xs : List C} {F : List Nat} (r : NodeAt E h xs F)
    (hh : ∀ q ys, walk q xs = some ys → bad (h q).1 → HoleOK E E2 (h q) ys) : NodeAt E2 h xs F := by
  obtain ⟨vs, F', rfl, ⟨c, ct, hb, hcs, hcx⟩, hx, hat, hr⟩ := r
  have nest : ∀ (vs' : List Value), vs'.length = vs.length → (∀ (i : Nat) x, xs[i]? = some x → x = .dead ∨ vs'[i]? = vs[i]?) → RelL E2 (fun j q => h (j :: q)) xs vs' F' := fun vs' hl' hv' =>
    RelL.hole hk hg xs hr hl' hv' (fun j sz2 n2 zs hj q ys hw => hh (j :: q) ys (by simp only [walk, hj]; exact hw))
  by_cases hbad : bad (h []).1
  · obtain ⟨q1, q2⟩ := hh [] xs rfl hbad
    obtain ⟨c', hc', hcs'⟩ := q1 c ct hb
    refine ⟨cellsNow E2.w (h []).1 (h []).2.1 vs, F', rfl, ⟨c', ct, hc', by omega, fun k p1 p2 hx => hcx k p1 p2 (hk.prot _ k hx)⟩, hx, now_at hat hb hc' hcs', nest _ now_length fun i x hx => ?_⟩
    rcases q2 i x hx with h1 | h1
    · exact .inl h1
    · right
      simp only [cellsNow, List.getElem?_mapIdx]
      cases hi : vs[i]? with
      | none => rfl
      | some u =>
        have := hat i u hi
        rw [this] at h1
        simp [h1]
  · have he := hg _ hbad
    exact ⟨vs, F', rfl, ⟨c, ct, he.trans hb, hcs, fun k p1 p2 hx => hcx k p1 p2 (hk.prot _ k hx)⟩, hx, hat.of_block he, nest vs rfl fun i x hx => .inr rfl⟩

end

/-! ### values with what they own -/

def cloV : V → Bool
  | .c x => clo x
  | .agg xs => cloL xs
  | .bx xs => cloL xs
  | .tup _ => false

/-- A value that comes in or goes out. -/
def RelO (E : Env) (g : Nat → List Nat → Key) : V → Value → List Nat → Prop
  | .bx xs, v, F => ∃ vs F', v = .pointer (some ⟨(g 0 []).1, (g 0 []).2.1, none⟩) ∧ F = (g 0 []).1 :: F' ∧ Blk E (g 0 []).1 (g 0 []).2.1 (g 0 []).2.2 ∧ xs.length ≤ (g 0 []).2.2 ∧ At E.w (g 0 []).1 (g 0 []).2.1 vs ∧
      RelL E (fun j q => g 0 (j :: q)) xs vs F'
  | u, v, F => RelU E g u v F

def RelOs (E : Env) : List V → List Value → List Nat → Prop
  | [], vs, F => vs = [] ∧ F = []
  | u :: us, vs, F => ∃ v vs' F1 F2 g, vs = v :: vs' ∧ F = F1 ++ F2 ∧ RelO E g u v F1 ∧ RelOs E us vs' F2

theorem RelO.over {E E' : Env} {u : V} {g : Nat → List Nat → Key} {v : Value} {F : List Nat} (hc : cloV u = true) (l : E.Over E' F) (r : RelO E g u v F) : RelO E' g u v F := by
  cases u with
  | c x => exact Rel.over x hc l r
  | agg xs => obtain ⟨vs, rfl, hr⟩ := r; exact ⟨vs, rfl, RelL.over xs hc l hr⟩
  | bx xs =>
    obtain ⟨vs, F', rfl, rfl, ⟨c, ct, hb, hcs, hcx⟩, hx, hat, hr⟩ := r
    have he := l.own (g 0 []).1 (by simp)
    exact ⟨vs, F', rfl, rfl, ⟨c, ct, he.trans hb, hcs, fun k q1 q2 hx => hcx k q1 q2 (l.prot _ (by simp) k hx)⟩, hx, hat.of_block he, RelL.over xs hc (l.sub (by simp +contextual)) hr⟩
  | tup us => cases hc

theorem RelOs.over {E E' : Env} : ∀ {us : List V} {vs : List Value} {F : List Nat}, us.all cloV = true → E.Over E' F → RelOs E us vs F → RelOs E' us vs F
  | [], _, _, _, _, r => r
  | u :: us, vs, F, hc, l, r => by
    simp only [RelOs] at r ⊢
    obtain ⟨v, vs', F1, F2, g, rfl, rfl, h1, h2⟩ := r
    simp only [List.all_cons, Bool.and_eq_true] at hc
    exact ⟨v, vs', F1, F2, g, rfl, rfl, h1.over hc.1 (l.sub (by simp +contextual)), RelOs.over hc.2 (l.sub (by simp +contextual)) h2⟩

theorem RelO.ghost {E E' : Env} (gh : E.Ghost E') {u : V} {g : Nat → List Nat → Key} {v : Value} {F : List Nat} (r : RelO E g u v F) : RelO E' g u v F := by
  have l : E.Le E' F := ⟨gh.keeps, fun _ _ => by rw [gh.w]⟩
  cases u with
  | c x => exact Rel.mono x l r
  | agg xs => obtain ⟨vs, rfl, hr⟩ := r; exact ⟨vs, rfl, RelL.mono xs l hr⟩
  | bx xs =>
    obtain ⟨vs, F', rfl, rfl, hb, hx, hat, hr⟩ := r
    exact ⟨vs, F', rfl, rfl, hb.of_block (by rw [gh.w]) l.prot, hx, by rw [gh.w]; exact hat, RelL.mono xs (l.sub (by simp +contextual)) hr⟩
  | tup us => exact r.elim

theorem RelOs.ghost {E E' : Env} (gh : E.Ghost E') : ∀ {us : List V} {vs : List Value} {F : List Nat}, RelOs E us vs F → RelOs E' us vs F
  | [], _, _, r => r
  | u :: us, vs, F, r => by
    simp only [RelOs] at r ⊢
    obtain ⟨v, vs', F1, F2, g, rfl, rfl, h1, h2⟩ := r
    exact ⟨v, vs', F1, F2, g, rfl, rfl, h1.ghost gh, RelOs.ghost gh h2⟩

end Go.Proofs.Ytgodaiiegcdpcaa.Abs
end
section
set_option linter.unusedVariables false
set_option linter.unusedSimpArgs false
namespace Go.Proofs.Ytgodaiiegcdpcaa.Abs
section
variable {P : Program} {N : Nat} {a : Act}

theorem RelU.o {E : Env} {u : V} {g : Nat → List Nat → Key} {v : Value} {F : List Nat} (h : RelU E g u v F) : RelO E g u v F := by
  cases u <;> first | exact h | exact h.elim

/-- One value taken out. -/
theorem takeU_rel {E : Env} {k : Nat} {s : St} {Fe : Id → List Nat} {u u' : V} {v : Value} {H' : Heap} (h : SR N s a E Fe) (r : RelU E g0 u v []) (ht : takeU k s.H u = some (u', H')) :
    ∃ g F' Fe', RelO E g u' v F' ∧ cloV u' = true ∧ Free E Fe' F' ∧ (∀ b ∈ F', ∃ e, b ∈ Fe e) ∧ (∀ e, (Fe' e).Sublist (Fe e)) ∧ SR N { s with H := H' } a E Fe' := by
  unfold takeU at ht
  split at ht
  · rename_i e
    obtain ⟨_, ha, rfl⟩ : [] = [] ∧ E.Al e ∧ v = .pointer (some ⟨(E.G e []).1, (E.G e []).2.1 + 0, none⟩) := r
    split at ht
    case h_2 => cases ht
    rename_i xs hx
    split at ht
    case h_2 => cases ht
    rename_i zs H4 hz
    simp only [Option.some.injEq, Prod.mk.injEq] at ht
    obtain ⟨rfl, rfl⟩ := ht
    obtain ⟨F0, Fe0, hnode, hsub0, hdis0, hsub1, hSR1⟩ := h.kill (H' := upd s.H e none) (p := []) (ys := xs) ha (by simp [getN, hx, walk]) (by simp [Abs.kill])
    have hnd0 : F0.Nodup := hsub0.nodup (h.nodup e)
    obtain ⟨ws, F0', rfl, hblk, hle, hat, hr⟩ := hnode
    simp only [List.nil_append] at hblk hle hat hr hsub0 hdis0 hnd0
    have hfree : Free E Fe0 F0' := ⟨(List.nodup_cons.1 hnd0).2, fun b hb e2 => hdis0 b (by simp [hb]) e2, fun b hb => h.size e b (hsub0.subset (by simp [hb])),
      fun b hb fl hzz => h.zone fl b hzz e (hsub0.subset (by simp [hb]))⟩
    obtain ⟨g', F3, Fe1, r1, r2, r3, r4, r5, r6⟩ := take_rel k hSR1 hr hfree hz
    have hbe : (E.G e []).1 ∈ Fe e := hsub0.subset (by simp)
    have hbn : (E.G e []).1 ∉ F3 := fun hm => by
      rcases r4 _ hm with h5 | ⟨e2, h5⟩
      · exact (List.nodup_cons.1 hnd0).1 h5
      · exact hdis0 _ (by simp) e2 h5
    refine ⟨fun _ q => match q with | [] => E.G e [] | j :: q => g' j q, (E.G e []).1 :: F3, Fe1, ⟨ws, F3, rfl, rfl, hblk, by rw [← r1.length, hr.length]; exact hle, hat, r1⟩, r2, ⟨List.nodup_cons.2 ⟨hbn, r3.nodup⟩, ?_, ?_, ?_⟩, ?_, fun e2 => (r5 e2).trans (hsub1 e2), r6⟩
    · intro b' hb' e2 he
      rcases List.mem_cons.1 hb' with rfl | hb'
      · exact hdis0 _ (by simp) e2 ((r5 e2).subset he)
      · exact r3.out b' hb' e2 he
    · intro b' hb'
      rcases List.mem_cons.1 hb' with rfl | hb'
      · exact h.size e _ hbe
      · exact r3.lt b' hb'
    · intro b' hb'
      rcases List.mem_cons.1 hb' with rfl | hb'
      · exact fun fl hzz => h.zone fl _ hzz e hbe
      · exact r3.zone b' hb'
    · intro b' hb'
      rcases List.mem_cons.1 hb' with rfl | hb'
      · exact ⟨e, hbe⟩
      · rcases r4 b' hb' with h5 | ⟨e2, h5⟩
        · exact ⟨e, hsub0.subset (by simp [h5])⟩
        · exact ⟨e2, (hsub1 e2).subset h5⟩
  · rename_i x _
    split at ht
    · rename_i y H4 hz
      simp only [Option.some.injEq, Prod.mk.injEq] at ht
      obtain ⟨rfl, rfl⟩ := ht
      have hr : RelL E g0 [x] [v] [] := by simp only [RelL]; exact ⟨v, [], [], [], rfl, rfl, r, rfl, rfl⟩
      obtain ⟨g', F3, Fe1, r1, r2, r3, r4, r5, r6⟩ := take_rel k h hr .nil hz
      obtain ⟨w, hw, r1'⟩ := r1.split1
      cases hw
      exact ⟨g', F3, Fe1, r1', by simpa [cloL, cloV] using r2, r3, fun b hb => (r4 b hb).resolve_left (by simp), r5, r6⟩
    · cases ht
  · rename_i xs
    obtain ⟨vs, rfl, hr⟩ := r
    split at ht
    · rename_i ys H4 hz
      simp only [Option.some.injEq, Prod.mk.injEq] at ht
      obtain ⟨rfl, rfl⟩ := ht
      obtain ⟨g', F3, Fe1, r1, r2, r3, r4, r5, r6⟩ := take_rel k h hr .nil hz
      exact ⟨g', F3, Fe1, ⟨vs, rfl, r1⟩, r2, r3, fun b hb => (r4 b hb).resolve_left (by simp), r5, r6⟩
    · cases ht
  · cases ht

theorem takeT_rel {E : Env} {k : Nat} : ∀ {us us' : List V} {s : St} {Fe : Id → List Nat} {vs : List Value} {H' : Heap}, SR N s a E Fe → RelUs E us vs → takeT k s.H us = some (us', H') →
    ∃ F' Fe', RelOs E us' vs F' ∧ us'.all cloV = true ∧ Free E Fe' F' ∧ (∀ b ∈ F', ∃ e, b ∈ Fe e) ∧ (∀ e, (Fe' e).Sublist (Fe e)) ∧ SR N { s with H := H' } a E Fe'
  | [], us', s, Fe, vs, H', h, r, ht => by
    simp only [takeT, Option.some.injEq, Prod.mk.injEq] at ht
    obtain ⟨rfl, rfl⟩ := ht
    exact ⟨[], Fe, ⟨r, rfl⟩, rfl, .nil, by simp, fun _ => List.Sublist.refl _, h⟩
  | u :: us, us', s, Fe, vs, H', h, r, ht => by
    simp only [RelUs] at r
    obtain ⟨v, vs', rfl, h1, h2⟩ := r
    simp only [takeT] at ht
    split at ht
    case h_2 => cases ht
    rename_i u1 H1 hu
    split at ht
    case h_2 => cases ht
    rename_i us1 H2 hus
    simp only [Option.some.injEq, Prod.mk.injEq] at ht
    obtain ⟨rfl, rfl⟩ := ht
    obtain ⟨g, F1, Fe1, q1, q2, q3, q4, q5, q6⟩ := takeU_rel h h1 hu
    obtain ⟨F2, Fe2, r1, r2, r3, r4, r5, r6⟩ := takeT_rel q6 h2 hus
    refine ⟨F1 ++ F2, Fe2, ⟨v, vs', F1, F2, g, rfl, rfl, q1, r1⟩, by simp [q2, r2], ⟨?_, ?_, ?_, ?_⟩, ?_, fun e => (r5 e).trans (q5 e), r6⟩
    · refine List.nodup_append.2 ⟨q3.nodup, r3.nodup, fun b hb b' hb' hbb => ?_⟩
      subst hbb
      obtain ⟨e, he⟩ := r4 b hb'
      exact q3.out b hb e he
    · intro b hb e he
      rcases List.mem_append.1 hb with hb | hb
      · exact q3.out b hb e ((r5 e).subset he)
      · exact r3.out b hb e he
    · intro b hb
      rcases List.mem_append.1 hb with hb | hb
      · exact q3.lt b hb
      · exact r3.lt b hb
    · intro b hb
      rcases List.mem_append.1 hb with hb | hb
      · exact q3.zone b hb
      · exact r3.zone b hb
    · intro b hb
      rcases List.mem_append.1 hb with hb | hb
      · exact q4 b hb
      · obtain ⟨e, he⟩ := r4 b hb
        exact ⟨e, (q5 e).subset he⟩

/-- Values brought in, one behind the other. -/
theorem bringT_rel (i : Nat × Nat × Nat) : ∀ {us : List V} {k : Nat} {s : St} {E : Env} {Fe : Id → List Nat} {vs : List Value} {F : List Nat}, SR N s a E Fe → RelOs E us vs F → Free E Fe F →
    (∀ k', k ≤ k' → ¬ E.Al (i.1, i.2.1, i.2.2, k')) →
    ∃ E' Fe', E.Ghost E' ∧ (∀ e, E'.Al e → E.Al e ∨ ∃ k', k ≤ k' ∧ e = (i.1, i.2.1, i.2.2, k')) ∧ SR N { s with H := (bringT i k s.H us).2 } a E' Fe' ∧ RelUs E' (bringT i k s.H us).1 vs ∧
      (∀ e b, b ∈ Fe' e → b ∈ Fe e ∨ b ∈ F)
  | [], k, s, E, Fe, vs, F, h, r, hF, _ => ⟨E, Fe, .refl E, fun e he => .inl he, h, r.1, fun e b hb => .inl hb⟩
  | u :: us, k, s, E, Fe, vs, F, h, r, hF, hfr => by
    simp only [RelOs] at r
    obtain ⟨v, vs', F1, F2, g, rfl, rfl, h1, h2⟩ := r
    have hF1 : Free E Fe F1 := hF.sub (List.sublist_append_left _ _)
    have hF2 : Free E Fe F2 := hF.sub (List.sublist_append_right _ _)
    have hd12 : ∀ b ∈ F1, b ∉ F2 := fun b hb hb' => (List.nodup_append.1 hF.nodup).2.2 b hb b hb' rfl
    have rest : ∀ {u' : V} {H1 : Heap} {k1 : Nat} {E1 : Env} {Fe1 : Id → List Nat}, k ≤ k1 → E.Ghost E1 → (∀ e, E1.Al e → E.Al e ∨ ∃ k', k ≤ k' ∧ k' < k1 ∧ e = (i.1, i.2.1, i.2.2, k')) → SR N { s with H := H1 } a E1 Fe1 →
        RelU E1 g0 u' v [] → (∀ e b, b ∈ Fe1 e → b ∈ Fe e ∨ b ∈ F1) → bringT i k s.H (u :: us) = (u' :: (bringT i k1 H1 us).1, (bringT i k1 H1 us).2) →
        ∃ E' Fe', E.Ghost E' ∧ (∀ e, E'.Al e → E.Al e ∨ ∃ k', k ≤ k' ∧ e = (i.1, i.2.1, i.2.2, k')) ∧ SR N { s with H := (bringT i k s.H (u :: us)).2 } a E' Fe' ∧ RelUs E' (bringT i k s.H (u :: us)).1 (v :: vs') ∧
          (∀ e b, b ∈ Fe' e → b ∈ Fe e ∨ b ∈ F1 ++ F2) := by
      intro u' H1 k1 E1 Fe1 hkk hg1 hal1 hSR1 hru hf1 he
      have hF2' : Free E1 Fe1 F2 := Free.ghost hg1 ⟨hF2.nodup, fun b hb e hbe => by
        rcases hf1 e b hbe with h5 | h5
        · exact hF2.out b hb e h5
        · exact hd12 b h5 hb, hF2.lt, hF2.zone⟩
      obtain ⟨E', Fe', hg2, hal2, hSR2, hr2, hf2⟩ := bringT_rel i (us := us) (k := k1) hSR1 (h2.ghost hg1) hF2'
        (fun k' hk' ha => by
          rcases hal1 _ ha with h5 | ⟨k2, q1, q2, q3⟩
          · exact hfr k' (by omega) h5
          · simp only [Prod.mk.injEq] at q3
            omega)
      rw [he]
      refine ⟨E', Fe', hg1.trans hg2, fun e hae => ?_, hSR2, ?_, fun e b hb => ?_⟩
      · rcases hal2 e hae with h5 | ⟨k', q1, q3⟩
        · rcases hal1 e h5 with h6 | ⟨k2, q1, q2, q3⟩
          · exact .inl h6
          · exact .inr ⟨k2, q1, q3⟩
        · exact .inr ⟨k', by omega, q3⟩
      · simp only [RelUs]
        refine ⟨v, vs', rfl, ?_, hr2⟩
        cases u' with
        | c x => exact Rel.mono x hg2.keeps.le hru
        | agg xs => obtain ⟨ws, rfl, hr⟩ := hru; exact ⟨ws, rfl, RelL.mono xs hg2.keeps.le hr⟩
        | bx xs => exact hru.elim
        | tup xs => exact hru.elim
      · rcases hf2 e b hb with h5 | h5
        · rcases hf1 e b h5 with h6 | h6
          · exact .inl h6
          · exact .inr (by simp [h6])
        · exact .inr (by simp [h5])
    cases u with
    | c x =>
      have hr : RelL E g [x] [v] F1 := by simp only [RelL]; exact ⟨v, [], F1, [], rfl, by simp, h1, rfl, rfl⟩
      obtain ⟨E1, Fe1, hg1, hal1, hSR1, hr1, hf1⟩ := bring_rel i (cs := [x]) (k := k) h hr hF1 hfr
      have hb1 : ∃ y, (bring i k s.H [x]).1 = [y] := by
        have hl := hr1.length
        simp only [List.length_singleton] at hl
        exact List.length_eq_one_iff.1 hl.symm
      obtain ⟨y, hy⟩ := hb1
      rw [hy] at hr1
      obtain ⟨w, hw, hr1'⟩ := hr1.split1
      cases hw
      exact rest (u' := .c y) (k1 := k + 1) (by omega) hg1 (fun e he => by simpa using hal1 e he) hSR1 hr1' hf1 (by simp [bringT, hy])
    | agg xs =>
      obtain ⟨ws, rfl, hr⟩ := h1
      obtain ⟨E1, Fe1, hg1, hal1, hSR1, hr1, hf1⟩ := bring_rel i (cs := xs) (k := k) h hr hF1 hfr
      exact rest (u' := .agg (bring i k s.H xs).1) (k1 := k + xs.length) (by omega) hg1 hal1 hSR1 ⟨ws, rfl, hr1⟩ hf1 rfl
    | bx xs =>
      obtain ⟨ws, F', rfl, rfl, hb, hx, hat, hr⟩ := h1
      obtain ⟨E1, hg1, hG1, hal1, hSR1⟩ := h.bring1 (hfr k (Nat.le_refl _)) (hh := g 0) ⟨ws, F', rfl, hb, hx, hat, hr⟩ hF1
      refine rest (u' := .c (.ptr (i.1, i.2.1, i.2.2, k) [] 0)) (k1 := k + 1) (by omega) hg1 (fun e he => ?_) hSR1 ?_ (fun e b hb => ?_) rfl
      · rcases (hal1 e).1 he with h5 | h5
        · exact .inl h5
        · exact .inr ⟨k, Nat.le_refl _, by omega, h5⟩
      · show Rel E1 (g0 0) _ _ []
        dsimp only [Rel]
        rw [hG1]
        exact ⟨rfl, (hal1 _).2 (.inr rfl), rfl⟩
      · by_cases hei : e = (i.1, i.2.1, i.2.2, k)
        · subst hei
          simp only [upd_same] at hb
          exact .inr hb
        · rw [upd_ne _ _ hei] at hb
          exact .inl hb
    | tup xs => exact h1.elim

/-- What is lent to be read: of the frame's nodes those none of whose cells is taken. -/
structure Lent (E : Env) (H : Heap) (Ec : Env) : Prop where
  w : Ec.w = E.w
  zone : ∀ fl b, E.Z fl b → Ec.Z fl b
  own : ∀ e q ys, getN H e q = some ys → E.Al e → ys.all live = true → Ec.Z true (E.G e q).1

theorem Lent.to {E : Env} {H : Heap} {Ec : Env} (l : Lent E H Ec) : ZoneTo true E Ec := fun f b _ hz => ⟨l.zone f b hz, by rw [l.w]⟩

theorem mapM_some {f : C → Option C} : ∀ {xs ys : List C}, xs.mapM f = some ys → (xs = [] ∧ ys = []) ∨ ∃ x xs' y ys', xs = x :: xs' ∧ ys = y :: ys' ∧ f x = some y ∧ xs'.mapM f = some ys'
  | [], ys, h => by simp at h; exact .inl ⟨rfl, h⟩
  | x :: xs, ys, h => by
    simp only [List.mapM_cons, Option.bind_eq_bind, Option.pure_def] at h
    cases hx : f x with
    | none => simp [hx] at h
    | some y =>
      cases hs : xs.mapM f with
      | none => simp [hx, hs] at h
      | some ys' =>
        simp [hx, hs] at h
        exact .inr ⟨x, xs, y, ys', rfl, h.symm, hx, hs⟩

theorem snap_live {H : Heap} {k : Nat} {c c' : C} (h : snap H k c = some c') : live c = true := by
  cases k with
  | zero => simp [snap] at h
  | succ k => cases c <;> first | rfl | (simp [snap] at h; done)

theorem mapM_live {H : Heap} {k : Nat} : ∀ {xs ys : List C}, xs.mapM (snap H k) = some ys → xs.all live = true
  | xs, ys, hs => by
    rcases mapM_some hs with ⟨rfl, rfl⟩ | ⟨x, xs', y, ys', rfl, rfl, h1, h2⟩
    · rfl
    · simp [snap_live h1, mapM_live h2]

theorem getN_snoc {H : Heap} {e : Id} {p : List Nat} {xs : List C} {j sz n : Nat} {zs : List C} (h : getN H e p = some xs) (hj : xs[j]? = some (.inl sz n zs)) : getN H e (p ++ [j]) = some zs := by
  unfold getN at h ⊢
  split at h
  · rw [walk_append, h]
    simp [walk, hj]
  · cases h

/-- A row of cells of a node, from index j0 on. -/
theorem snapL_rel {E Ec : Env} {H : Heap} {k : Nat} {e : Id} {p : List Nat} {xs0 : List C}
    (one : ∀ {c c' : C} {j : Nat} {h' : List Nat → Key} {v : Value} {F : List Nat}, xs0[j]? = some c → Rel E (fun q => E.G e (p ++ (j :: q))) c v F → snap H k c = some c' → Rel Ec h' c' v [] ∧ pur true c' = true) :
    ∀ {xs ys : List C} {j0 : Nat} {g g' : Nat → List Nat → Key} {vs : List Value} {F : List Nat}, (∀ j c, xs[j]? = some c → xs0[j0 + j]? = some c) → (∀ j q, g j q = E.G e (p ++ ((j0 + j) :: q))) → RelL E g xs vs F →
      xs.mapM (snap H k) = some ys → RelL Ec g' ys vs [] ∧ purL true ys = true
  | xs, ys, j0, g, g', vs, F, hxs, hg, r, hs => by
    rcases mapM_some hs with ⟨rfl, rfl⟩ | ⟨x, xs', y, ys', rfl, rfl, h1, h2⟩
    · simp only [RelL] at r ⊢
      exact ⟨⟨r.1, trivial⟩, rfl⟩
    · simp only [RelL] at r ⊢
      obtain ⟨v, vs', F1, F2, rfl, rfl, r1, r2⟩ := r
      have e0 : g 0 = fun q => E.G e (p ++ (j0 :: q)) := funext fun q => by rw [hg]; simp
      rw [e0] at r1
      obtain ⟨q1, q2⟩ := one (h' := g' 0) (by simpa using hxs 0 x rfl) r1 h1
      obtain ⟨q3, q4⟩ := snapL_rel one (xs := xs') (j0 := j0 + 1) (g' := fun j => g' (j + 1)) (fun j c hc => by have := hxs (j + 1) c (by simpa using hc); rwa [show j0 + 1 + j = j0 + (j + 1) by omega])
        (fun j q => by rw [hg]; congr 3; omega) r2 h2
      exact ⟨⟨v, vs', [], [], rfl, rfl, q1, q3⟩, by simp [purL, q2, q4]⟩

theorem snap_rel {E Ec : Env} {s : St} {Fe : Id → List Nat} (hSR : SR N s a E Fe) (l : Lent E s.H Ec) : ∀ (k : Nat) {c c' : C} {h h' : List Nat → Key} {v : Value} {F : List Nat}, Rel E h c v F →
    (Abs.flat c = true ∨ ∃ e p j xs0, getN s.H e p = some xs0 ∧ E.Al e ∧ xs0[j]? = some c ∧ h = fun q => E.G e (p ++ (j :: q))) → snap s.H k c = some c' → Rel Ec h' c' v [] ∧ pur true c' = true
  | 0, _, _, _, _, _, _, _, _, hs => by simp [snap] at hs
  | k + 1, c, c', h, h', v, F, r, hF, hs => by
    have lst : ∀ {e : Id} {p : List Nat} {xs0 : List C}, getN s.H e p = some xs0 → E.Al e → ∀ {xs ys : List C} {j0 : Nat} {g g' : Nat → List Nat → Key} {vs : List Value} {F : List Nat}, (∀ j c, xs[j]? = some c → xs0[j0 + j]? = some c) →
        (∀ j q, g j q = E.G e (p ++ ((j0 + j) :: q))) → RelL E g xs vs F → xs.mapM (snap s.H k) = some ys → RelL Ec g' ys vs [] ∧ purL true ys = true := by
      intro e p xs0 hg0' ha
      exact snapL_rel (fun {c c' j h' v F} hj r hs => snap_rel hSR l k r (.inr ⟨e, p, j, xs0, hg0', ha, hj, rfl⟩) hs)
    have plain : ∀ {c : C}, Rel E h c v F → pur true c = true → Rel Ec h' c v [] ∧ pur true c = true := fun r hp => ⟨(Rel.pure _ l.to hp r).2, hp⟩
    simp only [snap] at hs
    split at hs
    iterate 5
      · simp only [Option.some.injEq] at hs
        subst hs
        exact plain r rfl
    · rename_i fl sz n xs
      simp only [Option.some.injEq] at hs
      subst hs
      refine plain r ?_
      dsimp only [Rel] at r
      simp only [pur, Bool.or_true, Bool.true_and]
      exact r.2.2.1
    · rename_i sz n xs
      cases hm : xs.mapM (snap s.H k) with
      | none => simp [hm] at hs
      | some ys =>
        simp only [hm, Option.map_some, Option.some.injEq] at hs
        subst hs
        rcases hF with hF | ⟨e, p, j, xs0, hg0', ha, hj, hh⟩
        · cases hF
        · have hgn := getN_snoc hg0' hj
          dsimp only [Rel] at r
          obtain ⟨hl, b, o, cap, vs, F', rfl, hc, hkk, rfl, hb, hat, hr⟩ := r
          have hbk : (E.G e (p ++ [j])).1 = b := by rw [hh] at hkk; simp only at hkk; rw [hkk]
          obtain ⟨q1, q2⟩ := lst hgn ha (j0 := 0) (g' := g0) (fun j c hc => by simpa using hc) (fun i q => by rw [hh]; simp) hr hm
          refine ⟨?_, by simp [pur, q2]⟩
          dsimp only [Rel]
          exact ⟨rfl, by rw [← q1.length, hr.length, hl], q2, some ⟨b, o, none⟩, cap, rfl, hc, .inr ⟨b, o, vs, rfl, hbk ▸ l.own e _ xs hgn ha (mapM_live hm), by rw [l.w]; exact hat, q1⟩⟩
    · rename_i e p sz lo n
      split at hs
      case h_2 => cases hs
      rename_i xs hg
      split at hs
      case isFalse => cases hs
      rename_i hlive
      split at hs
      case h_2 => cases hs
      rename_i us hcut
      cases hm : us.mapM (snap s.H k) with
      | none => simp [hm] at hs
      | some ys =>
        simp only [hm, Option.map_some, Option.some.injEq] at hs
        subst hs
        dsimp only [Rel] at r
        obtain ⟨_, ha, kk, cap, rfl, hnc, hk, hcap, hko⟩ := r
        have hg' := hg
        unfold getN at hg'
        split at hg'
        case h_2 => cases hg'
        rename_i zs hz
        obtain ⟨Fy, hn, hsubF⟩ := node_walk (hSR.node e zs hz ha) hg'
        obtain ⟨ws, F', rfl, hblk, hle, hat, hr⟩ := hn
        simp only [List.append_nil] at hat hsubF
        obtain ⟨vs1, vs2, vs3, Fa, Fb, Fc, rfl, hl1, rfl, _, hr2, _⟩ := hr.cut hcut
        have hat2 := hat.mid
        rw [hl1] at hat2
        have hcs := cut_some hcut
        obtain ⟨q1, q2⟩ := lst hg ha (j0 := lo) (g' := g0) (fun j c hc => by
          rw [hcs.2, List.getElem?_take, List.getElem?_drop] at hc
          split at hc
          · exact hc
          · cases hc) (fun i q => rfl) hr2 hm
        refine ⟨?_, by simp [pur, q2]⟩
        dsimp only [Rel]
        have hl2 : vs2.length = n * sz := by rw [hr2.length, hcs.2]; have := hcs.1; simp; omega
        refine ⟨rfl, by rw [← q1.length, hl2], q2, some ⟨(E.G e p).1, kk, none⟩, cap, rfl, hnc, ?_⟩
        rcases hk with h0 | h0
        · left
          have : n * sz ≤ cap * sz := Nat.mul_le_mul_right _ hnc
          rw [← List.length_eq_zero_iff, ← q1.length, hl2]; omega
        · right
          exact ⟨_, _, vs2, rfl, l.own e p xs hg ha hlive, by rw [l.w, h0]; exact hat2, q1⟩
    · cases hs

theorem flat_of_rel {E : Env} {h : List Nat → Key} {x : C} {v : Value} (r : Rel E h x v []) : Abs.flat x = true := by
  cases x <;> first
    | rfl
    | (dsimp only [Rel] at r; obtain ⟨_, _, _, _, _, _, _, _, _, h, _⟩ := r; cases h)

theorem snapU_rel {E Ec : Env} {s : St} {Fe : Id → List Nat} (hSR : SR N s a E Fe) (l : Lent E s.H Ec) {k : Nat} {u u' : V} {v : Value} (r : RelV E u v) (hs : snapU k s.H u = some u') : RelU Ec g0 u' v [] := by
  cases u with
  | c x =>
    have other : (snap s.H k x).map V.c = some u' → RelU Ec g0 u' v [] := fun hs => by
      cases hx : snap s.H k x with
      | none => simp [hx] at hs
      | some y =>
        simp only [hx, Option.map_some, Option.some.injEq] at hs
        subst hs
        exact (snap_rel hSR l k r (.inl (flat_of_rel r)) hx).1
    cases x with
    | ptr e p off =>
      simp only [snapU] at hs
      split at hs
      case h_2 => cases hs
      rename_i xs hg
      split at hs
      case isFalse => cases hs
      rename_i hlive
      cases hm : xs.mapM (snap s.H k) with
      | none => simp [hm] at hs
      | some ys =>
        simp only [hm, Option.map_some, Option.some.injEq] at hs
        subst hs
        obtain ⟨_, ha, rfl⟩ : [] = [] ∧ E.Al e ∧ v = .pointer (some ⟨(E.G e p).1, (E.G e p).2.1 + off, none⟩) := r
        have hg' := hg
        unfold getN at hg'
        split at hg'
        case h_2 => cases hg'
        rename_i zs hz
        obtain ⟨Fy, hn, hsubF⟩ := node_walk (hSR.node e zs hz ha) hg'
        obtain ⟨ws, F', rfl, hblk, hle, hat, hr⟩ := hn
        simp only [List.append_nil] at hat
        obtain ⟨q1, q2⟩ := snapL_rel (fun {c c' j h' v F} hj r hs => snap_rel hSR l k r (.inr ⟨e, p, j, xs, hg, ha, hj, rfl⟩) hs) (j0 := 0) (g' := g0) (fun j c hc => by simpa using hc) (fun i q => by simp) hr hm
        show Rel Ec (g0 0) (.iptr true ys off) _ []
        dsimp only [Rel]
        exact ⟨rfl, _, _, ws, rfl, l.own e p xs hg ha hlive, by rw [l.w]; exact hat, q1⟩
    | _ => exact other hs
  | agg xs =>
    simp only [snapU] at hs
    cases hx : xs.mapM (snap s.H k) with
    | none => simp [hx] at hs
    | some ys =>
      simp only [hx, Option.map_some, Option.some.injEq] at hs
      subst hs
      obtain ⟨vs, rfl, hr⟩ := r
      refine ⟨vs, rfl, ?_⟩
      have key : ∀ {xs ys : List C} {g g' : Nat → List Nat → Key} {vs : List Value}, RelL E g xs vs [] → xs.mapM (snap s.H k) = some ys → RelL Ec g' ys vs [] := by
        intro xs
        induction xs with
        | nil =>
          intro ys g g' vs r hs
          simp at hs
          subst hs
          simpa only [RelL] using r
        | cons x xs ih =>
          intro ys g g' vs r hs
          rcases mapM_some hs with ⟨h0, _⟩ | ⟨x', xs', y, ys', he, rfl, h1, h2⟩
          · cases h0
          · cases he
            simp only [RelL] at r ⊢
            obtain ⟨v, vs', F1, F2, rfl, hF, r1, r2⟩ := r
            obtain ⟨rfl, rfl⟩ := List.append_eq_nil_iff.1 hF.symm
            exact ⟨v, vs', [], [], rfl, rfl, (snap_rel hSR l k r1 (.inl (flat_of_rel r1)) h1).1, ih r2 h2⟩
      exact key hr hx
  | bx xs => simp [snapU] at hs
  | tup us => simp [snapU] at hs

end
end Go.Proofs.Ytgodaiiegcdpcaa.Abs
end
