/- An abstract machine for Go functions over plain data, and the proof that each of its operations but calls comes to what the model's comes to: for every world that its values describe. No condition beyond that. -/
import Derived.Calls
import Derived.Tactics
import Derived.KernelRfl
import Derived.Laws.World
import Derived.Laws.Rows
import Derived.Laws.Sem
import Derived.Laws.Entries
import Derived.Laws.Tables
/- The abstract machine: values whose frozen memory is inline, struct locals kept beside the slots, a heap of mutable blocks; one pass over the code of a function. Definitions alone. -/
namespace Go.Ab

inductive AV where
  | bool (b : Bool)
  | int (k : IntKind) (n : Int)
  | str (s : ByteArray)
  | nilp
  | ptr (id off : Nat)
  | iptr (cs : List AV)
  | nils
  | hs (id off len es : Nat)
  | is (len : Nat) (cs : List AV)
  | nilf
  | fn (f : Nat) (first cap : List AV)
  | agg (cs : List AV)
  | tup (vs : List AV)
  /-- The function that a loop over a function hands to it. -/
  | yld (y : Nat)
  | bot
  deriving Inhabited

inductive AExit where
  | normal | exit (id : Nat) | goto (l : Nat) | ret

/-- Beside the blocks: the jump that a round has left, and the calls that are deferred. -/
abbrev Cx := Option AExit × List (Nat × List AV)
structure Heap where
  next : Nat
  blk : Nat → Option (List AV)
  cx : Cx := (none, [])

def Heap.set (S : Heap) (i : Nat) (c : Option (List AV)) : Heap := { S with blk := fun j => if j = i then c else S.blk j }
def Heap.alloc (S : Heap) (c : List AV) : Heap := { S with next := S.next + 1, blk := fun j => if j = S.next then some c else S.blk j }

/-- What a slot holds: a value, or the address of the struct local that lives at a slot. -/
inductive Ent where
  | v (a : AV)
  | ref (slot off : Nat)
  deriving Inhabited

abbrev Bx := List (Option (List AV))

structure St where
  env : List Ent
  bx : Bx
  S : Heap

/-- What an operation may do beside its result: nothing; read through an address; read a slice of bytes; read, write, make a struct local; anything. -/
inductive Ev where
  | none | ld (a : AV) | lb (a : AV) | bld (s : Nat) | bst (s : Nat) | bal (s : Nat) | ef

/-- Marks at an operation: 'frz': its result is frozen; 'heap': its block is one of the heap; 'call k': the callee's k-th way. -/
inductive OAn where
  | none | frz | heap | call (k : Nat) | callFrz (k : Nat)

def ofS : Value → Option AV
  | .bool b => some (.bool b)
  | .int k n => some (.int k n)
  | .string s => some (.str s)
  | .pointer none => some .nilp
  | .slice none 0 0 => some .nils
  | .nilFunc => some .nilf
  | _ => none
def ofL : List Value → Option (List AV)
  | [] => some []
  | v :: l => match ofS v with | some a => (match ofL l with | some r => some (a :: r) | none => none) | none => none
def ofV : Value → Option AV
  | .agg cs => (ofL cs.toList).map .agg
  | v => ofS v

def toS : AV → Option Value
  | .bool b => some (.bool b)
  | .int k n => some (.int k n)
  | .str s => some (.string s)
  | _ => none
def toL : List AV → Option (List Value)
  | [] => some []
  | v :: l => match toS v with | some a => (match toL l with | some r => some (a :: r) | none => none) | none => none

/-- Run without memory: of what asks for nothing but the program. -/
def pureRun {α : Type} (P : Program) : Sem α → Option α
  | .pure a => some a
  | .program k => pureRun P (k P)
  | _ => none

def bO {α β : Type} (o : Option α) (f : α → Option β) : Option β := match o with | some a => f a | none => none
def gB {β : Type} (b : Bool) (k : Option β) : Option β := match b with | true => k | false => none
def asBool {β : Type} (a : AV) (f : Bool → Option β) : Option β := match a with | .bool b => f b | _ => none
def asInt {β : Type} (k0 : IntKind) (a : AV) (f : Int → Option β) : Option β := match a with | .int k n => if k = k0 then f n else none | _ => none
def asStr {β : Type} (a : AV) (f : ByteArray → Option β) : Option β := match a with | .str s => f s | _ => none
def asTup {β : Type} (a : AV) (f : List AV → Option β) : Option β := match a with | .tup vs => f vs | _ => none
def asAgg {β : Type} (a : AV) (f : List AV → Option β) : Option β := match a with | .agg vs => f vs | _ => none
/-- A list of a known length, taken apart. -/
def asCons {β : Type} (l : List AV) (f : AV → List AV → Option β) : Option β := match l with | a :: r => f a r | [] => none
def asNil {β : Type} (l : List AV) (o : Option β) : Option β := match l with | [] => o | _ :: _ => none
/-- A list of so many, taken apart. -/
def takeN {β : Type} : Nat → List AV → (List AV → Option β) → Option β
  | 0, l, K => asNil l (K [])
  | n + 1, l, K => asCons l fun a r => takeN n r fun r' => K (a :: r')
def asFn {β : Type} (fid : Nat) (a : AV) (f : List AV → List AV → Option β) : Option β := match a with | .fn g first cap => if g = fid then f first cap else none | _ => none

section
variable (P : Program)

def tsize (t : TypeId) : Option Nat := (P.info? t).map (·.size)
def tagg (t : TypeId) : Option Bool := match P.underlying t with
  | some (.struct _) => some true | some (.array _ _) => some true | some _ => some false | none => none
def zcells (t : TypeId) : Option (List AV) := match P.info? t with
  | some i => (match i.zero with | some z => (match ofV z with | some (.agg cs) => some cs | some a => some [a] | none => none) | none => none)
  | none => none

def cell : AV → Bool
  | .agg _ | .tup _ | .bot => false
  | _ => true
/-- A value's cells, of a type of so many. -/
def cellsK {β : Type} (ag : Bool) (n : Nat) (a : AV) (K : List AV → Option β) : Option β :=
  if ag then asAgg a fun cs => gB (cs.length == n) (K cs) else gB (n == 1) (gB (cell a) (K [a]))

def rdK {β : Type} (cs : List AV) (off n : Nat) (agg : Bool) (K : AV → Option β) : Option β :=
  if agg then gB (decide (off + n ≤ cs.length)) (K (.agg ((cs.drop off).take n))) else bO cs[off]? K
def setCells : List AV → Nat → List AV → List AV
  | cs, _, [] => cs
  | cs, off, v :: vs => setCells (cs.set off v) (off + 1) vs
def repCells (n : Nat) (zs : List AV) : List AV := match zs with | [z] => List.replicate n z | _ => (List.replicate n zs).flatten

def gAV (G : Nat → Option (List AV)) (g : Nat) : AV := match G g with | some cs => .iptr cs | none => .bot
def opd (G : Nat → Option (List AV)) (env : List Ent) : Operand → Ent
  | .tmp t => env.getD t (.v .bot)
  | .const v => .v ((ofV v).getD .bot)
  | .global g => .v (gAV G g)
  | .func f => .v (.fn f [] [])
def opv (G : Nat → Option (List AV)) (env : List Ent) (o : Operand) : Option AV := match opd G env o with | .v a => some a | .ref _ _ => none
def opvs (G : Nat → Option (List AV)) (env : List Ent) : List Operand → Option (List AV)
  | [] => some []
  | o :: l => match opv G env o with | some a => (match opvs G env l with | some r => some (a :: r) | none => none) | none => none

-- whole numbers, bools, strings
def shlI (k : IntKind) (x y : Int) : Int := k.wrap (x * 2 ^ (min y.toNat k.bits))
def shrI (k : IntKind) (x y : Int) : Int := x.fdiv (2 ^ (min y.toNat k.bits))
def andI (k : IntKind) (x y : Int) : Int := k.wrap (BitVec.ofInt k.bits x &&& BitVec.ofInt k.bits y).toNat
def orI (k : IntKind) (x y : Int) : Int := k.wrap (BitVec.ofInt k.bits x ||| BitVec.ofInt k.bits y).toNat
def xorI (k : IntKind) (x y : Int) : Int := k.wrap (BitVec.ofInt k.bits x ^^^ BitVec.ofInt k.bits y).toNat
def andNotI (k : IntKind) (x y : Int) : Int := k.wrap (BitVec.ofInt k.bits x &&& ~~~(BitVec.ofInt k.bits y)).toNat
def aShift (op : BinOp) (k : IntKind) (x y : Int) : Option AV :=
  if y < 0 then none else match op with
    | .shl => some (.int k (shlI k x y))
    | .shr => some (.int k (shrI k x y))
    | _ => none
def aInt (op : BinOp) (k : IntKind) (x y : Int) : Option AV := match op with
  | .add => some (.int k (k.wrap (x + y)))
  | .sub => some (.int k (k.wrap (x - y)))
  | .mul => some (.int k (k.wrap (x * y)))
  | .quo => if y = 0 then none else some (.int k (k.wrap (x.tdiv y)))
  | .rem => if y = 0 then none else some (.int k (x.tmod y))
  | .and => some (.int k (andI k x y))
  | .or => some (.int k (orI k x y))
  | .xor => some (.int k (xorI k x y))
  | .andNot => some (.int k (andNotI k x y))
  | .eql => some (.bool (x == y))
  | .neq => some (.bool (x != y))
  | .lss => some (.bool (decide (x < y)))
  | .leq => some (.bool (decide (x ≤ y)))
  | .gtr => some (.bool (decide (x > y)))
  | .geq => some (.bool (decide (x ≥ y)))
  | _ => none
def strEq (x y : ByteArray) : Bool := x.toList == y.toList
def aStr (op : BinOp) (x y : ByteArray) : Option AV := match op with
  | .add => if ((x.size + y.size : Nat) : Int) > IntKind.i64.max then none else some (.str (x ++ y))
  | .eql => some (.bool (strEq x y))
  | .neq => some (.bool !(strEq x y))
  | _ => none
/-- '==' of what may be nil, one side nil. -/
def nilEq : AV → AV → Option Bool
  | .nilp, .nilp => some true
  | .nilp, .ptr _ _ => some false
  | .ptr _ _, .nilp => some false
  | .nilp, .iptr _ => some false
  | .iptr _, .nilp => some false
  | .nils, .nils => some true
  | .nils, .hs _ _ _ _ => some false
  | .hs _ _ _ _, .nils => some false
  | .nils, .is _ _ => some false
  | .is _ _, .nils => some false
  | .nilf, .nilf => some true
  | .nilf, .fn _ _ _ => some false
  | .fn _ _ _, .nilf => some false
  | _, _ => none
inductive Kd where | ptr | slc | func
def nilKd : AV → Option Kd
  | .nilp | .ptr _ _ | .iptr _ => some .ptr
  | .nils | .hs _ _ _ _ | .is _ _ => some .slc
  | .nilf | .fn _ _ _ => some .func
  | _ => none
def kdOk (t : TypeId) : Kd → Bool
  | .ptr => (match P.underlying t with | some (.pointer _) => true | _ => false)
  | .slc => (match P.underlying t with | some (.slice _) => true | _ => false)
  | .func => (match P.underlying t with | some (.func _ _ _) => true | _ => false)
def aggEq (t : TypeId) (xs ys : List AV) : Option Bool := match toL xs, toL ys with
  | some a, some b => if P.eqGuardType P.depth t then none else pureRun P (Op.equal t (.agg a.toArray) (.agg b.toArray))
  | _, _ => none
def aEql (t : TypeId) (x y : AV) : Option Bool := match x, y with
  | .bool a, .bool b => (match P.underlying t with | some .bool => some (a == b) | _ => none)
  | .agg xs, .agg ys => aggEq P t xs ys
  | x, y => match nilKd x with | some k => if kdOk P t k then nilEq x y else none | none => none
def aBin (op : BinOp) (t : TypeId) (x y : AV) : Option AV := match x, y with
  | .int k a, .int k' b => (match op with
    | .shl => aShift .shl k a b
    | .shr => aShift .shr k a b
    | op => if k = k' then aInt op k a b else none)
  | .str a, .str b => aStr op a b
  | x, y => match op with
    | .eql => (aEql P t x y).map .bool
    | .neq => (aEql P t x y).map fun b => .bool !b
    | _ => none
def aUn (op : UnOp) (x : AV) : Option AV := match op, x with
  | .not, .bool b => some (.bool !b)
  | .neg, .int k n => some (.int k (k.wrap (0 - n)))
  | .xor, .int k n => aInt .xor k (if k.signed then -1 else k.max) n
  | _, _ => none

def bytesOf : List AV → Option (List UInt8)
  | [] => some []
  | .int .u8 n :: l => (match bytesOf l with | some r => some (UInt8.ofNat n.toNat :: r) | none => none)
  | _ => none

-- parts of structs and arrays
def placesL : List Field → Option (List (Nat × Nat × Bool))
  | [] => some []
  | f :: l => match tsize P f.type, tagg P f.type with
    | some n, some ag => (match placesL l with | some r => some ((f.offset, n, ag) :: r) | none => none)
    | _, _ => none
def placeOf (t : TypeId) : Option (Nat → Option (Nat × Nat × Bool)) := match P.underlying t with
  | some (.struct fs) => (match placesL P fs.toList with | some l => some fun i => l[i]? | none => none)
  | some (.array _ e) => (match tsize P e, tagg P e with | some n, some ag => some fun i => some (i * n, n, ag) | _, _ => none)
  | _ => none
def fillK {β : Type} (place : Nat → Option (Nat × Nat × Bool)) : List AV → List (Nat × AV) → (List AV → Option β) → Option β
  | cs, [], K => K cs
  | cs, (i, v) :: rest, K => bO (place i) fun p => cellsK p.2.2 p.2.1 v fun vs => gB (decide (p.1 + vs.length ≤ cs.length)) (fillK place (setCells cs p.1 vs) rest K)
def partK {β : Type} (cs : List AV) (t : TypeId) (off : Nat) (K : AV → Option β) : Option β := match tagg P t, tsize P t with
  | some ag, some n => rdK cs off n ag K
  | _, _ => none
def elemOf (t : TypeId) : Option TypeId := match P.underlying t with | some (.slice e) => some e | _ => none

/-- The address 'off' cells on. -/
def addV (a : AV) (off : Nat) : Option AV := match a with
  | .ptr i o => some (.ptr i (o + off))
  | .iptr cs => some (.iptr (cs.drop off))
  | _ => none
def addP {β : Type} (p : Ent) (off : Nat) (K : Ent → Option β) : Option β := match p with
  | .ref s o => K (.ref s (o + off))
  | .v a => bO (addV a off) fun x => K (.v x)

structure Out where
  e : Ent
  bx : Bx
  S : Heap
  ev : Ev

/-- A read through an address that is a value: the cells there; from which block. -/
def seeV (a : AV) (S : Heap) : Option (List AV × Nat) := match a with
  | .ptr id off => (match S.blk id with | some cs => some (cs, off) | none => none)
  | .iptr cs => some (cs, 0)
  | _ => none
def loadK {β : Type} (t : TypeId) (p : Ent) (bx : Bx) (S : Heap) (K : Out → Option β) : Option β := match tagg P t, tsize P t with
  | some ag, some n => (match p with
    | .ref s off => bO (bx.getD s none) fun cs => rdK cs off n ag fun a => K ⟨.v a, bx, S, .bld s⟩
    | .v a => bO (seeV a S) fun r => rdK r.1 r.2 n ag fun x => K ⟨.v x, bx, S, .ld a⟩)
  | _, _ => none
def putV (a : AV) (vs : List AV) (S : Heap) : Option Heap := match a with
  | .ptr id off => (match S.blk id with
    | some cs => if off + vs.length ≤ cs.length then some (S.set id (some (setCells cs off vs))) else none
    | none => none)
  | _ => none
def storeK {β : Type} (t : TypeId) (p : Ent) (x : AV) (bx : Bx) (S : Heap) (K : Out → Option β) : Option β := match tagg P t, tsize P t with
  | some ag, some n => cellsK ag n x fun vs => gB (vs.all cell) (match p with
    | .ref s off => bO (bx.getD s none) fun cs => gB (decide (off + vs.length ≤ cs.length)) (K ⟨.v (.tup []), bx.set s (some (setCells cs off vs)), S, .bst s⟩)
    | .v a => bO (putV a vs S) fun S' => K ⟨.v (.tup []), bx, S', .ef⟩)
  | _, _ => none

/-- A new row: frozen at once, or a block of the heap. -/
def newRowA (fz : Bool) (len es : Nat) (cs : List AV) (bx : Bx) (S : Heap) : Out :=
  if fz then ⟨.v (.is len cs), bx, S, .none⟩ else ⟨.v (.hs S.next 0 len es), bx, S.alloc cs, .ef⟩
def newVarK {β : Type} (heap : Bool) (dst : Option Nat) (cs : List AV) (bx : Bx) (S : Heap) (K : Out → Option β) : Option β :=
  if heap then K ⟨.v (.ptr S.next 0), bx, S.alloc cs, .ef⟩
  else match dst with
    | some d => (match bx[d]? with | some none => K ⟨.ref d 0, bx.set d (some cs), S, .bal d⟩ | _ => none)
    | none => none

/-- A slice of bytes as a string. -/
def aB2S (x : AV) (S : Heap) : Option ByteArray := match x with
  | .nils => some .empty
  | .is n cs => if n = cs.length then (match bytesOf cs with | some l => some ⟨l.toArray⟩ | none => none) else none
  | .hs id off n es => (match S.blk id with
    | some cs => if es = 1 ∧ off + n ≤ cs.length then (match bytesOf ((cs.drop off).take n) with | some l => some ⟨l.toArray⟩ | none => none) else none
    | none => none)
  | _ => none
def byteCells (s : ByteArray) : List AV := s.data.toList.map fun b => .int .u8 b.toNat
def convK {β : Type} (fz : Bool) (src dst : TypeId) (x : AV) (bx : Bx) (S : Heap) (K : Out → Option β) : Option β :=
  match P.underlying src, P.underlying dst with
  | some (.int k0), some (.int k) => asInt k0 x fun n => K ⟨.v (.int k (k.wrap n)), bx, S, .none⟩
  | some .string, some .string => asStr x fun s => K ⟨.v (.str s), bx, S, .none⟩
  | some (.slice e), some .string => (match P.underlying e with
    | some (.int .u8) => bO (aB2S x S) fun r => K ⟨.v (.str r), bx, S, .lb x⟩
    | _ => none)
  | some .string, some (.slice e) => (match P.underlying e with
    | some (.int .u8) => asStr x fun s => gB (decide (s.size ≤ 2 ^ 40)) (K (newRowA fz s.size 1 (byteCells s) bx S))
    | _ => none)
  | _, _ => none

def aNat (x : Option AV) (d : Nat) : Option Nat := match x with
  | none => some d
  | some (.int _ n) => if 0 ≤ n then some n.toNat else none
  | _ => none
def aSlice (t : TypeId) (x : AV) (lo hi : Option AV) : Option AV :=
  match P.underlying t, x with
  | some .string, .str s => (match aNat lo 0, aNat hi s.size with
    | some l, some h => if l ≤ h ∧ h ≤ s.size then some (.str (s.extract l h)) else none
    | _, _ => none)
  | some (.slice e), .hs id off n es => (match tsize P e, aNat lo 0, aNat hi n with
    | some k, some l, some h => if k = es ∧ l ≤ h ∧ h ≤ n then some (.hs id (off + l * es) (h - l) es) else none
    | _, _, _ => none)
  | some (.slice e), .is n cs => (match tsize P e, aNat lo 0, aNat hi n with
    | some k, some l, some h => if l ≤ h ∧ h ≤ n ∧ cs.length = n * k then some (.is (h - l) ((cs.drop (l * k)).take ((h - l) * k))) else none
    | _, _, _ => none)
  | some (.slice e), .nils => (match tsize P e, aNat lo 0, aNat hi 0 with
    | some _, some 0, some 0 => some .nils
    | _, _, _ => none)
  | _, _ => none
/-- A part of an array behind an address. -/
def aSliceArr (n k : Nat) (x : AV) (lo hi : Option AV) (S : Heap) : Option AV := match seeV x S, aNat lo 0, aNat hi n with
  | some (cs, off), some l, some h => if l ≤ h ∧ h ≤ n ∧ off + n * k ≤ cs.length then (match x with
      | .ptr id o => some (.hs id (o + l * k) (h - l) k)
      | .iptr cs => some (.is (h - l) ((cs.drop (l * k)).take ((h - l) * k)))
      | _ => none) else none
  | _, _, _ => none
/-- The address of an element of a slice. -/
def aIdx (k : Nat) (x : AV) (i : Int) : Option AV := match x with
  | .hs id off n es => if 0 ≤ i ∧ i < n ∧ k = es then some (.ptr id (off + i.toNat * es)) else none
  | .is n cs => if 0 ≤ i ∧ i < n then some (.iptr (cs.drop (i.toNat * k))) else none
  | _ => none
def indexAddrK {β : Type} (t : TypeId) (x : Ent) (ix : AV) (K : Ent → Option β) : Option β := match P.underlying t, ix with
  | some (.array n e), .int _ i => bO (tsize P e) fun k => gB (decide (0 ≤ i) && decide (i < n)) (addP x (i.toNat * k) K)
  | some (.slice e), .int _ i => bO (tsize P e) fun k => (match x with
    | .v a => bO (aIdx k a i) fun p => K (.v p)
    | .ref _ _ => none)
  | _, _ => none
def indexK {β : Type} (t : TypeId) (x ix : AV) (K : AV → Option β) : Option β := match P.underlying t, ix with
  | some (.array n e), .int _ i => asAgg x fun cs => bO (tsize P e) fun k => gB (decide (0 ≤ i) && decide (i < n)) (partK P cs e (i.toNat * k) K)
  | some .string, .int _ i => asStr x fun s => gB (decide (0 ≤ i)) (bO s[i.toNat]? fun b => K (.int .u8 b.toNat))
  | _, _ => none
def fieldK {β : Type} (t : TypeId) (x : AV) (f : Nat) (K : AV → Option β) : Option β := match P.underlying t with
  | some (.struct fs) => bO fs[f]? fun fd => asAgg x fun cs => partK P cs fd.type fd.offset K
  | _ => none
def aLen (t : TypeId) (x : AV) : Option AV := match P.underlying t, x with
  | some .string, .str s => some (.int .i64 s.size)
  | some (.array n _), _ => some (.int .i64 n)
  | some (.slice _), .nils => some (.int .i64 0)
  | some (.slice _), .hs _ _ n _ => some (.int .i64 n)
  | some (.slice _), .is n _ => some (.int .i64 n)
  | _, _ => none
def aMin : AV → List AV → Option AV
  | x, [] => some x
  | .int k x, .int _ y :: l => aMin (.int k (if y < x then y else x)) l
  | _, _ => none
def aMax : AV → List AV → Option AV
  | x, [] => some x
  | .int k x, .int _ y :: l => aMax (.int k (if y > x then y else x)) l
  | _, _ => none
/-- The cells of a slice, or of a string. -/
def rowOf (es : Nat) (x : AV) (S : Heap) : Option (Nat × List AV) := match x with
  | .nils => some (0, [])
  | .is n cs => if cs.length = n * es then some (n, cs) else none
  | .hs id off n es' => (match S.blk id with
    | some cs => if es = es' ∧ off + n * es ≤ cs.length then some (n, (cs.drop off).take (n * es)) else none | none => none)
  | .str s => if es = 1 then some (s.size, byteCells s) else none
  | _ => none
def mostRoom : Nat := 2 ^ 44
/-- append of n elements, of 'es' cells and 'by' bytes each: always a new block; the old one dies. -/
def aAppendN (es bytes : Nat) (s : AV) (n : Nat) (new : List AV) (S : Heap) : Option (AV × Heap) :=
  if n = 0 then (match s with
      | .nils => some (.nils, S)
      | .hs id off m k => some (.hs id off m k, S)
      | .is m cs => some (.is m cs, S)
      | _ => none)
    else (match s with
      | .nils => if n * bytes ≤ mostRoom ∧ n ≤ mostRoom then some (.hs S.next 0 n es, S.alloc new) else none
      | .hs id off m k => (match S.blk id with
        | some cs => if k = es ∧ off + m * k ≤ cs.length ∧ (m + n) * bytes ≤ mostRoom ∧ m + n ≤ mostRoom ∧ new.all cell then
            some (.hs S.next 0 (m + n) es, (S.set id none).alloc ((cs.drop off).take (m * es) ++ new)) else none
        | none => none)
      | _ => none)
def aAppend (es bytes : Nat) (s x : AV) (S : Heap) : Option (AV × Heap) := match rowOf es x S with
  | some (n, new) => aAppendN es bytes s n new S
  | none => none
/-- append(s, make([]T, k)...). -/
def aAppendZ (es bytes : Nat) (zs : List AV) (s x : AV) (S : Heap) : Option (AV × Heap) := match x with
  | .int _ k => if 0 ≤ k ∧ k * bytes ≤ (mostRoom : Int) ∧ k ≤ (mostRoom : Int) then aAppendN es bytes s k.toNat (repCells k.toNat zs) S else none
  | _ => none
def aCopy (es : Nat) (d x : AV) (S : Heap) : Option (AV × Heap) := match d, rowOf es x S with
  | .hs id off m k, some (n, new) => (match S.blk id with
    | some cs => if k = es ∧ off + m * k ≤ cs.length ∧ new.all cell then
        some (.int .i64 (min n m : Nat), S.set id (some (setCells cs off (new.take (min n m * es))))) else none
    | none => none)
  | .nils, some _ => some (.int .i64 0, S)
  | _, _ => none

/-- One after another. -/
def fzM (f : AV → Heap → Option (AV × Heap)) : List AV → Heap → Option (List AV × Heap)
  | [], S => some ([], S)
  | a :: l, S => match f a S with
    | some (a', S') => (match fzM f l S' with | some (l', S'') => some (a' :: l', S'') | none => none)
    | none => none
/-- Freezing: a value's heap slices become inline, their blocks die. -/
def fz : Nat → AV → Heap → Option (AV × Heap)
  | 0, _, _ => none
  | d + 1, a, S => match a with
    | .hs id off n es => (match S.blk id with
      | some cs => if off + n * es ≤ cs.length then (match fzM (fz d) ((cs.drop off).take (n * es)) (S.set id none) with
          | some (cs', S') => some (.is n cs', S') | none => none) else none
      | none => none)
    | .agg cs => (match fzM (fz d) cs S with | some (cs', S') => some (.agg cs', S') | none => none)
    | .tup cs => (match fzM (fz d) cs S with | some (cs', S') => some (.tup cs', S') | none => none)
    | a => some (a, S)
end
end Go.Ab

/- The abstract machine: one operation, a region, the code of a function, calls and loops. Definitions alone. -/
namespace Go.Ab

deriving instance DecidableEq for AExit

/-- The way through a loop: one round after another, up to a round that leaves. -/
abbrev LSt := List AV × Heap
inductive LoopRel (step : LSt → Option (LSt ⊕ (Nat × LSt))) : LSt → Nat × LSt → Prop where
  | done {s x} (h : step s = some (.inr x)) : LoopRel step s x
  | cont {s s' x} (h : step s = some (.inl s')) (r : LoopRel step s' x) : LoopRel step s x
/-- Go on by the number of the way out. -/
def sel {β : Type} : List (List AV → Heap → Option β) → Nat → List AV → Heap → Option β
  | f :: _, 0, v, S => f v S
  | _ :: l, i + 1, v, S => sel l i v S
  | [], _, _, _ => none

/-- A look at memory that must come out the same before and behind an effect. -/
inductive Chk where
  | see (a : AV) (S' S : Heap)
  | b2s (a : AV) (S' S : Heap)
def Chk.ok : Chk → Prop
  | .see a S' S => seeV a S' = seeV a S
  | .b2s a S' S => aB2S a S' = aB2S a S
/-- Slots that live on: 'none': a struct local; 'some t': a value of type t. -/
abbrev Live := List (Nat × Option TypeId)
inductive AnX where
  | nil
  | region (pre : List Nat) (ops : List (Nat × OAn)) (outs : Option Live)
  | seq (a b : AnX)
  | cond (a b : AnX)
  | condJ (outs : Live) (a b : AnX)
  | sub (a : AnX)
  | jmp (exits : List (AExit × Live)) (a b : AnX)
  | loop (live : Live) (exits : List (AExit × Live)) (a : AnX)
  | rng (fid ncap : Nat) (exs : List AExit) (it a b : AnX)
  | dfr (fid ncap : Nat) (d a : AnX)

abbrev CallF := Nat → Nat → List AV → Heap → Option (AV × Heap)
/-- How loops are gone, looks compared, heaps cut back: by choice, or by counting; and what loops over functions, and jumps to labels, come to. -/
structure Ctl where
  loop : (LSt → Option (LSt ⊕ (Nat × LSt))) → LSt → Option (Nat × LSt)
  same : List Chk → Bool
  tr : Heap → AV → Heap → AV × Heap
  rf : Program → (Nat → Option (List AV)) → CallF → Nat → Operand → Array Tmp → Code → Code → AnX → St → Option (AExit × Heap) := fun _ _ _ _ _ _ _ _ _ _ => none
  jf : Program → (Nat → Option (List AV)) → CallF → Nat → Code → Nat → AnX → List (AExit × Live) → St → Option (Nat × LSt) := fun _ _ _ _ _ _ _ _ _ => none

/-- By this number calls of the function that a loop hands over go. -/
def yldId : Nat := 1000000000
/-- By this number 'defer' statements go. -/
def dfrId : Nat := 1000000001

def OAn.isFrz : OAn → Bool | .frz => true | _ => false
def OAn.isHeap : OAn → Bool | .heap => true | _ => false
def OAn.way : OAn → Nat | .call k => k | .callFrz k => k | _ => 0
def OAn.cFrz : OAn → Bool | .callFrz _ => true | _ => false
def anAt : List (Nat × OAn) → Nat → OAn
  | [], _ => .none
  | (j, a) :: l, i => if j = i then a else anAt l i

section
variable (P : Program)
/-- A value of a type that says its form is taken apart, so that what follows meets its form. -/
def norm {β : Type} (d : Option TypeDesc) (a : AV) (K : AV → Option β) : Option β := match d with
  | some .bool => asBool a fun b => K (.bool b)
  | some (.int k) => asInt k a fun n => K (.int k n)
  | some .string => asStr a fun s => K (.str s)
  | some (.struct _) => asAgg a fun cs => K (.agg cs)
  | some (.array _ _) => asAgg a fun cs => K (.agg cs)
  | _ => K a
def normL {β : Type} : List TypeId → List AV → (List AV → Option β) → Option β
  | [], l, K => K l
  | t :: ts, l, K => asCons l fun a r => norm (P.underlying t) a fun a' => normL ts r fun r' => K (a' :: r')
def normE {β : Type} (op : Op) (t : TypeId) (e : Ent) (K : Ent → Option β) : Option β := match e with
  | .ref s o => K (.ref s o)
  | .v a => (match op with
    | .call _ => (match P.underlying t with
      | some (.tuple ts) => asTup a fun vs => normL P ts.toList vs fun vs' => K (.v (.tup vs'))
      | d => norm d a fun a' => K (.v a'))
    | .alloc _ => K (.v a)
    | .box _ _ => K (.v a)
    | .store _ _ _ => K (.v a)
    | .fieldAddr _ _ _ => K (.v a)
    | .indexAddr _ _ _ => K (.v a)
    | .nilCheck _ => K (.v a)
    | _ => norm (P.underlying t) a fun a' => K (.v a'))
end

def putE (env : List Ent) (dst : Option Nat) (e : Ent) : List Ent := match dst with | some d => env.set d e | none => env

section
variable (P : Program) (G : Nat → Option (List AV)) (C : CallF)

def aParts (env : List Ent) : List (Nat × Operand) → Option (List (Nat × AV))
  | [] => some []
  | (i, o) :: l => match opv G env o, aParts env l with | some a, some r => some ((i, a) :: r) | _, _ => none
def opvO (env : List Ent) : Option Operand → Option (Option AV)
  | none => some none
  | some o => match opv G env o with | some a => some (some a) | none => none

def callK {β : Type} (an : OAn) (f : AV) (args : List AV) (S : Heap) (K : AV → Heap → Option β) : Option β := match f with
  | .fn g first cap => if yldId ≤ g then none else bO (C g an.way (first ++ args ++ cap) S) fun r =>
    if an.cFrz then bO (fz 40 r.1 r.2) fun q => K q.1 q.2 else K r.1 r.2
  | .yld y => bO (C yldId y args S) fun r => K r.1 r.2
  | _ => none

def aopK {β : Type} (an : OAn) (o : Oper) (env : List Ent) (bx : Bx) (S : Heap) (K : Out → Option β) : Option β := match o.op with
  | .move x => K ⟨opd G env x, bx, S, .none⟩
  | .assign x => K ⟨opd G env x, bx, S, .none⟩
  | .pick c a b => bO (opv G env c) fun x => asBool x fun t => if t then K ⟨opd G env a, bx, S, .none⟩ else K ⟨opd G env b, bx, S, .none⟩
  | .alloc t => bO (zcells P t) fun cs => newVarK an.isHeap o.dst cs bx S K
  | .box t x => bO (opv G env x) fun a => bO (tagg P t) fun ag => bO (tsize P t) fun n => cellsK ag n a fun cs => newVarK an.isHeap o.dst cs bx S K
  | .build t ps => bO (zcells P t) fun zs => bO (aParts G env ps.toList) fun l => bO (placeOf P t) fun pl => fillK pl zs l fun cs => K ⟨.v (.agg cs), bx, S, .none⟩
  | .buildSlice t len ps => bO (elemOf P t) fun e => bO (tsize P e) fun n => bO (tagg P e) fun ag => bO (zcells P e) fun zs => bO (aParts G env ps.toList) fun l =>
      gB (decide (len * n ≤ 2 ^ 20) && zs.length == n) (fillK (fun i => some (i * n, n, ag)) (repCells len zs) l fun cs => K (newRowA an.isFrz len n cs bx S))
  | .load t a => loadK P t (opd G env a) bx S K
  | .store t a x => bO (opv G env x) fun v => storeK P t (opd G env a) v bx S K
  | .nilCheck x => (match opd G env x with
    | .ref s f => K ⟨.ref s f, bx, S, .none⟩
    | .v a => bO (addV a 0) fun _ => K ⟨.v a, bx, S, .none⟩)
  | .binOp op t x y _ => bO (opv G env x) fun a => bO (opv G env y) fun b => bO (aBin P op t a b) fun r => K ⟨.v r, bx, S, .none⟩
  | .unOp op _ x => bO (opv G env x) fun a => bO (aUn op a) fun r => K ⟨.v r, bx, S, .none⟩
  | .convert s d x => bO (opv G env x) fun a => convK P an.isFrz s d a bx S K
  | .makeFunc (.func f) first cap => bO (opvs G env first.toList) fun a => bO (opvs G env cap.toList) fun b => K ⟨.v (.fn f a b), bx, S, .none⟩
  | .makeSlice t l c => bO (elemOf P t) fun e => bO (P.info? e) fun i => bO (zcells P e) fun zs =>
      bO (opv G env l) fun x => bO (opv G env c) fun y => asInt .i64 x fun n => asInt .i64 y fun m =>
        gB (decide (0 ≤ n) && decide (n ≤ m) && decide (m * i.bytes ≤ 2 ^ 44) && decide (m ≤ 2 ^ 44) && zs.length == i.size)
          (K (newRowA an.isFrz n.toNat i.size (repCells n.toNat zs) bx S))
  | .slice t x lo hi none => bO (opvO G env lo) fun l => bO (opvO G env hi) fun h => bO (opv G env x) fun a => (match P.underlying t with
      | some (.array n e) => bO (tsize P e) fun k => bO (aSliceArr n k a l h S) fun r => K ⟨.v r, bx, S, .ld a⟩
      | _ => bO (aSlice P t a l h) fun r => K ⟨.v r, bx, S, .none⟩)
  | .fieldAddr s x f => (match P.underlying s with
    | some (.struct fs) => bO fs[f]? fun fd => bO (tsize P fd.type) fun n => gB (decide (0 < n)) (addP (opd G env x) fd.offset fun p => K ⟨p, bx, S, .none⟩)
    | _ => none)
  | .field t x f => bO (opv G env x) fun a => fieldK P t a f fun r => K ⟨.v r, bx, S, .none⟩
  | .indexAddr t x i => bO (opv G env i) fun a => indexAddrK P t (opd G env x) a fun p => K ⟨p, bx, S, .none⟩
  | .index t x i => bO (opv G env x) fun a => bO (opv G env i) fun b => indexK P t a b fun r => K ⟨.v r, bx, S, .none⟩
  | .extract t i => bO (opv G env t) fun a => asTup a fun vs => bO vs[i]? fun r => K ⟨.v r, bx, S, .none⟩
  | .call c => (match c.callee with
    | .builtin .len => bO (opvs G env c.args.toList) fun l => asCons l fun a _ => bO c.argTypes[0]? fun t => bO (aLen P t a) fun r => K ⟨.v r, bx, S, .none⟩
    | .builtin .append => bO (opvs G env c.args.toList) fun l => asCons l fun s l' => asCons l' fun x _ => bO c.argTypes[0]? fun t => bO (elemOf P t) fun e =>
        bO (P.info? e) fun i => bO c.argTypes[1]? fun u => bO (zcells P e) fun zs => gB (zs.length == i.size)
          (bO (match P.underlying u with | some (.slice _) => aAppend i.size i.bytes s x S | some .string => aAppend i.size i.bytes s x S | some (.int _) => aAppendZ i.size i.bytes zs s x S | _ => none) fun r => K ⟨.v r.1, bx, r.2, .ef⟩)
    | .builtin .copy => bO (opvs G env c.args.toList) fun l => asCons l fun s l' => asCons l' fun x _ => bO c.argTypes[0]? fun t => bO (elemOf P t) fun e =>
        bO (tsize P e) fun n => bO (aCopy n s x S) fun r => K ⟨.v r.1, bx, r.2, .ef⟩
    | .builtin .min => bO (opvs G env c.args.toList) fun l => asCons l fun a l' => bO (aMin a l') fun r => K ⟨.v r, bx, S, .none⟩
    | .builtin .max => bO (opvs G env c.args.toList) fun l => asCons l fun a l' => bO (aMax a l') fun r => K ⟨.v r, bx, S, .none⟩
    | .value f => bO (opvs G env c.args.toList) fun args => bO (opv G env f) fun a => callK C an a args S fun v S' => K ⟨.v v, bx, S', .ef⟩
    | _ => none)
  | .defer c => (match c.callee with
    | .value f => bO (opvs G env c.args.toList) fun args => bO (opv G env f) fun a => (match a with
      | .fn g first cap => bO (C dfrId g (first ++ args ++ cap) S) fun r => K ⟨.v (.tup []), bx, r.2, .ef⟩
      | _ => none)
    | _ => none)
  | _ => none

/-- Is a guarded operation wanted? Where that is open, both ways are gone, each with the guard's slot written out. -/
def guardK {β : Type} (ops : List Oper) (o : Oper) (env : List Ent) (K : Bool → List Ent → Option β) : Option β := match o.guard with
  | none => K true env
  | some (j, want) => (match (ops[j]?).bind (·.dst) with
    | some d => (match env.getD d (.v .bot) with
      | .v (.bool b) => if b then K (true == want) (env.set d (.v (.bool true))) else K (false == want) (env.set d (.v (.bool false)))
      | .v (.tup []) => K false env
      | _ => none)
    | none => none)

/-- A region in the order of the text. -/
def evS {R : Type} (ops : List Oper) (ans : List (Nat × OAn)) : Nat → List Oper → (St → Option R) → St → Option R
  | _, [], K, st => K st
  | i, o :: l, K, st => guardK ops o st.env fun w env =>
    if w then aopK P G C (anAt ans i) o env st.bx st.S fun r => normE P o.op o.type r.e fun e => evS ops ans (i + 1) l K ⟨putE env o.dst e, r.bx, r.S⟩
    else evS ops ans (i + 1) l K ⟨putE env o.dst (.v (.tup [])), st.bx, st.S⟩

structure Hist where
  i : Nat
  ev : Ev
  S : Heap
  S' : Heap

def compat (a b : Hist) : Option (List Chk) := match a.ev, b.ev with
  | .none, _ => some []
  | _, .none => some []
  | .ef, .ef => none
  | .ld x, .ef => some [.see x b.S' b.S]
  | .ef, .ld x => some [.see x a.S' a.S]
  | .lb x, .ef => some [.b2s x b.S' b.S]
  | .ef, .lb x => some [.b2s x a.S' a.S]
  | .bld s, .bst s' => if s = s' then none else some []
  | .bld s, .bal s' => if s = s' then none else some []
  | .bst s, .bld s' => if s = s' then none else some []
  | .bst s, .bst s' => if s = s' then none else some []
  | .bst s, .bal s' => if s = s' then none else some []
  | .bal s, .bld s' => if s = s' then none else some []
  | .bal s, .bst s' => if s = s' then none else some []
  | .bal s, .bal s' => if s = s' then none else some []
  | _, _ => some []
def compatAll (bf : List Nat) (b : Hist) : List Hist → Option (List Chk)
  | [] => some []
  | a :: l => if (bf.getD b.i 0).testBit a.i then compatAll bf b l else
    match compat a b, compatAll bf b l with | some p, some q => some (p ++ q) | _, _ => none

/-- A region that draws its order: in the order of the text; what is not ordered must not meet. -/
def evD (X : Ctl) {R : Type} (ops : List Oper) (ans : List (Nat × OAn)) (bf : List Nat) : Nat → List Oper → List Hist → (St → Option R) → St → Option R
  | _, [], _, K, st => K st
  | i, o :: l, hist, K, st => guardK ops o st.env fun w env =>
    if w then aopK P G C (anAt ans i) o env st.bx st.S fun r => normE P o.op o.type r.e fun e => (match r.ev with
        | .none => evD X ops ans bf (i + 1) l hist K ⟨putE env o.dst e, r.bx, r.S⟩
        | ev => (match compatAll bf ⟨i, ev, st.S, r.S⟩ hist with
          | some ps => gB (X.same ps) (evD X ops ans bf (i + 1) l (⟨i, ev, st.S, r.S⟩ :: hist) K ⟨putE env o.dst e, r.bx, r.S⟩)
          | none => none))
    else evD X ops ans bf (i + 1) l hist K ⟨putE env o.dst (.v (.tup [])), st.bx, st.S⟩

/-- The sets of operations that are before each one, as bits. -/
def befores : List Oper → List Nat → List Nat
  | [], acc => acc
  | o :: l, acc => befores l (acc ++ [o.after.toList.foldl (fun s e => if Region.binds .any e then s ||| (1 <<< e.on) ||| acc.getD e.on 0 else s) 0])
def edgesDown : Nat → List Oper → Bool
  | _, [] => true
  | i, o :: l => o.after.toList.all (fun e => !Region.binds .any e || decide (e.on < i)) && edgesDown (i + 1) l
def looks (ops : List Oper) (o : Oper) : List Nat :=
  (o.op.operands.toList.filterMap fun | .tmp t => some t | _ => none) ++
  (match o.guard with | some (g, _) => ((ops[g]?).bind (·.dst)).toList | none => [])
def apartO (ops : List Oper) (x y : Oper) : Bool :=
  (match x.dst with | some d => !(looks ops y).contains d && y.dst != some d | none => true) &&
  (match y.dst with | some d => !(looks ops x).contains d | none => true)
def apartAll (ops : List Oper) (b : Nat) (o : Oper) : Nat → List Oper → Bool
  | _, [] => true
  | i, x :: l => (b.testBit i || apartO ops x o) && apartAll ops b o (i + 1) l
def regOk (ops : List Oper) (bf : List Nat) : Nat → List Oper → Bool
  | _, [] => true
  | i, o :: l => apartAll ops (bf.getD i 0) o 0 (ops.take i) && regOk ops bf (i + 1) l

def freezeK {β : Type} : List Nat → St → (St → Option β) → Option β
  | [], st, K => K st
  | s :: l, st, K => (match st.env.getD s (.v .bot) with
    | .v a => bO (fz 40 a st.S) fun q => freezeK l ⟨st.env.set s (.v q.1), st.bx, q.2⟩ K
    | .ref s' _ => gB (s' == s) (bO (st.bx.getD s none) fun cs => bO (fz 40 (.agg cs) st.S) fun q => asAgg q.1 fun cs' => freezeK l ⟨st.env, st.bx.set s (some cs'), q.2⟩ K))
def aggCells : AV → List AV | .agg cs => cs | _ => []
def nthA : List AV → Nat → AV
  | vs, 0 => vs.headD .bot
  | vs, n + 1 => nthA vs.tail n
def reify (st : St) : Live → Option (List AV)
  | [] => some []
  | (s, none) :: l => (match st.env.getD s (.v .bot), st.bx.getD s none with
    | .ref s' 0, some cs => if s' = s then (match reify st l with | some r => some (.agg cs :: r) | none => none) else none
    | _, _ => none)
  | (s, some _) :: l => (match st.env.getD s (.v .bot) with
    | .v a => (match reify st l with | some r => some (a :: r) | none => none)
    | _ => none)
/-- The slots anew: what lives on, and nothing else. -/
def mkK {β : Type} : Live → List AV → List Ent → Bx → (List Ent → Bx → Option β) → Option β
  | [], _, env, bx, K => K env bx
  | (s, none) :: l, vs, env, bx, K => mkK l vs.tail (env.set s (.ref s 0)) (bx.set s (some (aggCells (vs.headD .bot)))) K
  | (s, some t) :: l, vs, env, bx, K => norm (P.underlying t) (vs.headD .bot) fun a => mkK l vs.tail (env.set s (.v a)) bx K
def mkSt {β : Type} (n : Nat) (live : Live) (vs : List AV) (S : Heap) (K : St → Option β) : Option β :=
  mkK P live vs (List.replicate n (.v .bot)) (List.replicate n none) fun env bx => K ⟨env, bx, S⟩
end

def AnX.fst : AnX → AnX | .seq a _ => a | .cond a _ => a | .condJ _ a _ => a | _ => .nil
def AnX.snd : AnX → AnX | .seq _ b => b | .cond _ b => b | .condJ _ _ b => b | _ => .nil
def AnX.sb : AnX → AnX | .sub a => a | .loop _ _ a => a | .jmp _ a _ => a | _ => .nil
def AnX.js : AnX → AnX | .jmp _ _ b => b | _ => .nil
def AnX.pre : AnX → List Nat | .region p _ _ => p | _ => []
def AnX.ops : AnX → List (Nat × OAn) | .region _ l _ => l | _ => []
def AnX.outs : AnX → Option Live | .condJ o _ _ => some o | .region _ _ o => o | _ => none
def AnX.live : AnX → Live | .loop l _ _ => l | _ => []
def AnX.exits : AnX → List (AExit × Live) | .loop _ l _ => l | .jmp l _ _ => l | _ => []

def AnX.exs : AnX → List AExit | .rng _ _ l _ _ _ => l | _ => []
def AnX.fid : AnX → Nat | .rng f _ _ _ _ _ => f | _ => 0
def AnX.ncap : AnX → Nat | .rng _ n _ _ _ _ => n | _ => 0
def AnX.it : AnX → AnX | .rng _ _ _ a _ _ => a | _ => .nil
def AnX.ra : AnX → AnX | .rng _ _ _ _ a _ => a | _ => .nil
def AnX.rb : AnX → AnX | .rng _ _ _ _ _ a => a | _ => .nil
def exSel {R : Type} : List AExit → AExit → (AExit → Option R) → Option R
  | [], _, _ => none
  | x :: l, e, K => if e = x then K x else exSel l e K

def exIdx (e : AExit) (st : St) : Nat → List (AExit × Live) → Option (Nat × LSt)
  | _, [] => none
  | i, (x, outs) :: l => if e = x then (match reify st outs with | some vs => some (i, vs, st.S) | none => none) else exIdx e st (i + 1) l
def exConts {R : Type} (P : Program) (n : Nat) (K : AExit → St → Option R) : List (AExit × Live) → List (List AV → Heap → Option R)
  | [] => []
  | (e, outs) :: l => (fun vs S => mkSt P n outs vs S (K e)) :: exConts P n K l

def inBlk {R : Type} (id : Nat) (K : AExit → St → Option R) (e : AExit) (st : St) : Option R := match e with
  | .exit i => if i = id then K .normal st else K (.exit i) st
  | e => K e st
def onlyNormal (outs : Live) (e : AExit) (st : St) : Option LSt := match e with
  | .normal => (match reify st outs with | some vs => some (vs, st.S) | none => none)
  | _ => none
def inSeq {R : Type} (next : St → Option R) (K : AExit → St → Option R) (e : AExit) (st : St) : Option R := match e with
  | .normal => next st
  | e => K e st
def inRound (live : Live) (exits : List (AExit × Live)) (e : AExit) (st : St) : Option (LSt ⊕ (Nat × LSt)) := match e with
  | .normal => (match reify st live with | some v => some (.inl (v, st.S)) | none => none)
  | e => (match exIdx e st 0 exits with | some x => some (.inr x) | none => none)

section
variable (X : Ctl) (P : Program) (G : Nat → Option (List AV)) (C : CallF) (n : Nat)

def evReg {R : Type} (ops : List Oper) (draw : Bool) (ans : List (Nat × OAn)) (K : St → Option R) (st : St) : Option R :=
  if draw then
    (if edgesDown 0 ops && regOk ops (befores ops []) 0 ops then evD P G C X ops ans (befores ops []) 0 ops [] K st else none)
  else evS P G C ops ans 0 ops K st

/-- A jump to a label of the scope: what follows there is gone through once, up to the way out. -/
def inScope {R : Type} (a : Code) (an : AnX) (K : AExit → St → Option R) (e : AExit) (st : St) : Option R := match e with
  | .goto l => bO (X.jf P G C n a l an.js an.exits st) fun r => sel (exConts P n K an.exits) r.1 r.2.1 r.2.2
  | e => K e st

def ev : {R : Type} → Code → AnX → (AExit → St → Option R) → St → Option R
  | _, .skip, _, K, st => K .normal st
  | _, .label _, _, K, st => K .normal st
  | _, .ret, _, K, st => K .ret st
  | _, .exit id, _, K, st => K (.exit id) st
  | _, .goto l, _, K, st => K (.goto l) st
  | _, .region _ ops draw, an, K, st => freezeK an.pre st fun st' => (match an.outs with
      | none => evReg X P G C ops.toList draw an.ops (K .normal) st'
      | some outs => bO (evReg X P G C ops.toList draw an.ops (onlyNormal outs .normal) st') fun r => mkSt P n outs r.1 r.2 (K .normal))
  | _, .seq a b, an, K, st => ev a an.fst (inSeq (ev b an.snd K) K) st
  | _, .cond c a b, an, K, st => bO (opv G st.env c) fun x => asBool x fun t => (match an.outs with
      | none => if t then ev a an.fst K st else ev b an.snd K st
      | some outs => bO (if t then ev (R := LSt) a an.fst (onlyNormal outs) st else ev (R := LSt) b an.snd (onlyNormal outs) st) fun r =>
          mkSt P n outs r.1 r.2 (K .normal))
  | _, .block id a, an, K, st => ev a an.sb (inBlk id K) st
  | _, .scope a, an, K, st => ev a an.sb (inScope X P G C n a an K) st
  | _, .loop a, an, K, st => bO (reify st an.live) fun vs =>
      bO (X.loop (fun s => mkSt P n an.live s.1 s.2 (ev a an.sb (inRound an.live an.exits))) (vs, st.S)) fun r =>
        sel (exConts P n K an.exits) r.1 r.2.1 r.2.2
  | _, .rangeFunc g ps assign body, an, K, st => bO (X.rf P G C n g ps assign body an st) fun q => exSel an.exs q.1 fun e => K e { st with S := q.2 }
  | _, .refuse _, _, _, _ => none
end

mutual
/-- No place of the heap is named. -/
def noId : AV → Bool
  | .ptr _ _ => false
  | .hs _ _ _ _ => false
  | .iptr cs => noIdL cs
  | .is _ cs => noIdL cs
  | .fn _ a b => noIdL a && noIdL b
  | .yld _ => false
  | .agg cs => noIdL cs
  | .tup vs => noIdL vs
  | _ => true
def noIdL : List AV → Bool
  | [] => true
  | a :: l => noId a && noIdL l
end

structure FAn where
  body : AnX
  frz : Bool := false
  /-- Called with a heap of its own: nothing that goes in or comes out names a place. -/
  loc : Bool := false

def resK {β : Type} (P : Program) (st : St) : ResultVar → (AV → Option β) → Option β
  | .tmp t, K => (match st.env.getD t (.v .bot) with | .v a => K a | _ => none)
  | .cell a t, K => loadK P t (st.env.getD a (.v .bot)) st.bx st.S fun r => (match r.e with | .v x => K x | _ => none)
def resL {β : Type} (P : Program) (st : St) : List ResultVar → (List AV → Option β) → Option β
  | [], K => K []
  | r :: l, K => resK P st r fun a => resL P st l fun vs => K (a :: vs)
def oneOf (vs : List AV) : AV := match vs with | [v] => v | vs => .tup vs
def finish (X : Ctl) (P : Program) (fn : Func) (frz : Bool) (S0 : Heap) (st : St) : Option (AV × Heap) :=
  resL P st fn.results.toList fun vs => if frz then bO (fz 40 (oneOf vs) st.S) fun q => some (X.tr S0 q.1 q.2) else some (X.tr S0 (oneOf vs) st.S)
def evFn (X : Ctl) (P : Program) (G : Nat → Option (List AV)) (C : CallF) (fn : Func) (fa : FAn) (args : List AV) (S : Heap) : Option (AV × Heap) :=
  match fn.body with
  | none => none
  | some code => normL P fn.params.toList args fun args' => gB (decide (args'.length ≤ fn.ntmps)) <|
      ev X P G C fn.ntmps code fa.body (fun e st => match e with
        | .normal => finish X P fn fa.frz S st
        | .ret => finish X P fn fa.frz S st
        | _ => none)
      ⟨args'.map Ent.v ++ List.replicate (fn.ntmps - args'.length) (Ent.v (.tup [])), List.replicate fn.ntmps none, S⟩
end Go.Ab

/- What the abstract machine's values, locals and heap say of the real world; the relation is kept when the world grows. -/
namespace Go.Ab

structure Gam where
  phi : Nat → Option (Option (Nat × Nat × Nat))
  Z : Nat → Nat → Option Value
  /-- The loops whose rounds the functions that were handed over run. -/
  yl : Nat → Option Nat

mutual
def vrel (g : Gam) : AV → Value → Prop
  | .bool b, v => v = .bool b
  | .int k n, v => v = .int k n
  | .str s, v => v = .string s
  | .nilp, v => v = .pointer none
  | .ptr id off, v => ∃ x : Addr, v = .pointer (some x) ∧ (g.phi id = some none ∨ ∃ b o sz, g.phi id = some (some (b, o, sz)) ∧ x = ⟨b, o + off, none⟩)
  | .iptr cs, v => ∃ x : Addr, v = .pointer (some x) ∧ zrel g cs x
  | .nils, v => v = .slice none 0 0
  | .hs id off len es, v => ∃ (x : Addr) (cap : Nat), v = .slice (some x) len cap ∧ len ≤ cap ∧
      (g.phi id = some none ∨ (cap = 0 ∧ g.phi id ≠ none) ∨ ∃ b o sz, g.phi id = some (some (b, o, sz)) ∧ x = ⟨b, o + off, none⟩ ∧ o + off + cap * es ≤ sz)
  | .is len cs, v => ∃ (x : Addr) (cap : Nat), v = .slice (some x) len cap ∧ len ≤ cap ∧ zrel g cs x
  | .nilf, v => v = .nilFunc
  | .fn f a c, v => ∃ fs cp : List Value, v = .func (.func f) fs.toArray cp.toArray ∧ lrel g a fs ∧ lrel g c cp
  | .agg cs, v => ∃ vs : List Value, v = .agg vs.toArray ∧ lrel g cs vs
  | .tup cs, v => ∃ vs : List Value, v = .tuple vs.toArray ∧ lrel g cs vs
  | .yld y, v => ∃ l, g.yl y = some l ∧ v = .func (.yield l) #[] #[]
  | .bot, _ => True
def lrel (g : Gam) : List AV → List Value → Prop
  | [], vs => vs = []
  | a :: l, vs => ∃ v r, vs = v :: r ∧ vrel g a v ∧ lrel g l r
def zrel (g : Gam) : List AV → Addr → Prop
  | [], _ => True
  | a :: l, x => x.spot = none ∧ (∃ v, g.Z x.block x.off = some v ∧ vrel g a v) ∧ zrel g l ⟨x.block, x.off + 1, none⟩
end

/-- Later: blocks may have died, and become known; memory may have been frozen. -/
structure Gam.le (g h : Gam) : Prop where
  phi : ∀ i x, g.phi i = some x → h.phi i = some x ∨ h.phi i = some none
  Z : ∀ b o v, g.Z b o = some v → h.Z b o = some v
  yl : ∀ y l, g.yl y = some l → h.yl y = some l

theorem Gam.le.refl (g : Gam) : g.le g := ⟨fun _ _ h => .inl h, fun _ _ _ h => h, fun _ _ h => h⟩
theorem Gam.le.trans {a b c : Gam} (h : a.le b) (k : b.le c) : a.le c :=
  ⟨fun i x hx => (h.phi i x hx).elim (fun e => k.phi i x e) (fun e => .inr ((k.phi i _ e).elim (fun e => e) (fun e => e))), fun b o v hv => k.Z b o v (h.Z b o v hv), fun y l hy => k.yl y l (h.yl y l hy)⟩

mutual
theorem vrel_mono {g h : Gam} (le : g.le h) : ∀ (a : AV) (v : Value), vrel g a v → vrel h a v
  | .bool _, _, e => e
  | .int _ _, _, e => e
  | .str _, _, e => e
  | .nilp, _, e => e
  | .ptr id off, v, e => by
    simp only [vrel] at e ⊢
    obtain ⟨x, hv, hd | ⟨b, o, sz, hl, hx⟩⟩ := e
    · exact ⟨x, hv, .inl ((le.phi _ _ hd).elim (fun e => e) (fun e => e))⟩
    · rcases le.phi _ _ hl with h1 | h1
      · exact ⟨x, hv, .inr ⟨b, o, sz, h1, hx⟩⟩
      · exact ⟨x, hv, .inl h1⟩
  | .iptr cs, v, e => by
    simp only [vrel] at e ⊢
    obtain ⟨x, hv, hz⟩ := e
    exact ⟨x, hv, zrel_mono le cs x hz⟩
  | .nils, _, e => e
  | .hs id off len es, v, e => by
    simp only [vrel] at e ⊢
    obtain ⟨x, cap, hv, hc, hd | hz | ⟨b, o, sz, hl, hx⟩⟩ := e
    · exact ⟨x, cap, hv, hc, .inl ((le.phi _ _ hd).elim (fun e => e) (fun e => e))⟩
    · refine ⟨x, cap, hv, hc, .inr (.inl ⟨hz.1, ?_⟩)⟩
      cases hp : g.phi id with
      | none => exact absurd hp hz.2
      | some y => rcases le.phi _ _ hp with h1 | h1 <;> rw [h1] <;> simp
    · rcases le.phi _ _ hl with h1 | h1
      · exact ⟨x, cap, hv, hc, .inr (.inr ⟨b, o, sz, h1, hx⟩)⟩
      · exact ⟨x, cap, hv, hc, .inl h1⟩
  | .is len cs, v, e => by
    simp only [vrel] at e ⊢
    obtain ⟨x, cap, hv, hc, hz⟩ := e
    exact ⟨x, cap, hv, hc, zrel_mono le cs x hz⟩
  | .nilf, _, e => e
  | .fn f a c, v, e => by
    simp only [vrel] at e ⊢
    obtain ⟨fs, cp, hv, h1, h2⟩ := e
    exact ⟨fs, cp, hv, lrel_mono le a fs h1, lrel_mono le c cp h2⟩
  | .agg cs, v, e => by
    simp only [vrel] at e ⊢
    obtain ⟨vs, hv, h1⟩ := e
    exact ⟨vs, hv, lrel_mono le cs vs h1⟩
  | .tup cs, v, e => by
    simp only [vrel] at e ⊢
    obtain ⟨vs, hv, h1⟩ := e
    exact ⟨vs, hv, lrel_mono le cs vs h1⟩
  | .yld y, v, e => by simp only [vrel] at e ⊢; obtain ⟨l, h1, h2⟩ := e; exact ⟨l, le.yl y l h1, h2⟩
  | .bot, _, _ => by simp only [vrel]
theorem lrel_mono {g h : Gam} (le : g.le h) : ∀ (l : List AV) (vs : List Value), lrel g l vs → lrel h l vs
  | [], _, e => e
  | a :: l, vs, e => by
    simp only [lrel] at e ⊢
    obtain ⟨v, r, hv, h1, h2⟩ := e
    exact ⟨v, r, hv, vrel_mono le a v h1, lrel_mono le l r h2⟩
theorem zrel_mono {g h : Gam} (le : g.le h) : ∀ (l : List AV) (x : Addr), zrel g l x → zrel h l x
  | [], _, _ => by simp only [zrel]
  | a :: l, x, e => by
    simp only [zrel] at e ⊢
    obtain ⟨hs, ⟨v, hz, h1⟩, h2⟩ := e
    exact ⟨hs, ⟨v, le.Z _ _ _ hz, vrel_mono le a v h1⟩, zrel_mono le l _ h2⟩
end

theorem lrel_length {g : Gam} : ∀ {l : List AV} {vs : List Value}, lrel g l vs → vs.length = l.length
  | [], vs, e => by simp only [lrel] at e; simp [e]
  | a :: l, vs, e => by
    simp only [lrel] at e
    obtain ⟨v, r, hv, _, h2⟩ := e
    subst hv; simp [lrel_length h2]
theorem lrel_get {g : Gam} : ∀ {l : List AV} {vs : List Value} (i : Nat) (a : AV), lrel g l vs → l[i]? = some a → ∃ v, vs[i]? = some v ∧ vrel g a v
  | [], vs, i, a, e, h => by simp at h
  | b :: l, vs, 0, a, e, h => by
    simp only [lrel] at e
    obtain ⟨v, r, hv, h1, h2⟩ := e
    simp at h; subst h; exact ⟨v, by simp [hv], h1⟩
  | b :: l, vs, i + 1, a, e, h => by
    simp only [lrel] at e
    obtain ⟨v, r, hv, h1, h2⟩ := e
    obtain ⟨u, hu, h3⟩ := lrel_get i a h2 (by simpa using h)
    exact ⟨u, by simp [hv, hu], h3⟩
theorem lrel_append {g : Gam} : ∀ {l m : List AV} {vs us : List Value}, lrel g l vs → lrel g m us → lrel g (l ++ m) (vs ++ us)
  | [], m, vs, us, e, h => by simp only [lrel] at e; subst e; simpa using h
  | a :: l, m, vs, us, e, h => by
    simp only [lrel] at e
    obtain ⟨v, r, hv, h1, h2⟩ := e
    subst hv
    simp only [List.cons_append, lrel]
    exact ⟨v, r ++ us, rfl, h1, lrel_append h2 h⟩
theorem lrel_of {g : Gam} : ∀ {l : List AV} {vs : List Value}, vs.length = l.length → (∀ (i : Nat) (a : AV), l[i]? = some a → ∃ v, vs[i]? = some v ∧ vrel g a v) → lrel g l vs
  | [], vs, hl, _ => by simp only [lrel]; exact List.eq_nil_of_length_eq_zero (by simpa using hl)
  | a :: l, [], hl, _ => by simp at hl
  | a :: l, v :: vs, hl, h => by
    simp only [lrel]
    refine ⟨v, vs, rfl, ?_, lrel_of (by simpa using hl) fun i b hb => ?_⟩
    · obtain ⟨u, hu, h1⟩ := h 0 a (by simp)
      simp at hu; subst hu; exact h1
    · obtain ⟨u, hu, h1⟩ := h (i + 1) b (by simpa using hb)
      exact ⟨u, by simpa using hu, h1⟩
theorem lrel_drop {g : Gam} (n : Nat) {l : List AV} {vs : List Value} (h : lrel g l vs) : lrel g (l.drop n) (vs.drop n) :=
  lrel_of (by simp [lrel_length h]) fun i a ha => by
    rw [List.getElem?_drop] at ha ⊢
    exact lrel_get _ _ h ha
theorem lrel_take {g : Gam} (n : Nat) {l : List AV} {vs : List Value} (h : lrel g l vs) : lrel g (l.take n) (vs.take n) :=
  lrel_of (by simp [lrel_length h]) fun i a ha => by
    rw [List.getElem?_take] at ha ⊢
    split at ha
    · rename_i hi; rw [if_pos hi]; exact lrel_get _ _ h ha
    · simp at ha
theorem lrel_set {g : Gam} {l : List AV} {vs : List Value} (h : lrel g l vs) (i : Nat) {a : AV} {v : Value} (ha : vrel g a v) : lrel g (l.set i a) (vs.set i v) :=
  lrel_of (by simp [lrel_length h]) fun j b hb => by
    have hl := lrel_length h
    rw [List.getElem?_set] at hb ⊢
    split at hb
    · rename_i hij
      split at hb
      · rename_i hlt
        simp at hb; subst hb
        rw [if_pos hij, if_pos (by omega)]
        exact ⟨v, rfl, ha⟩
      · simp at hb
    · rename_i hij
      rw [if_neg hij]
      exact lrel_get _ _ h hb
theorem lrel_setCells {g : Gam} : ∀ (as : List AV) (us : List Value) (l : List AV) (vs : List Value) (off : Nat), lrel g l vs → lrel g as us →
    lrel g (setCells l off as) (us.zipIdx.foldl (fun cs p => cs.set (off + p.2) p.1) vs)
  | [], us, l, vs, off, h, k => by simp only [lrel] at k; subst k; simpa [setCells] using h
  | a :: as, us, l, vs, off, h, k => by
    simp only [lrel] at k
    obtain ⟨u, r, hu, h1, h2⟩ := k
    subst hu
    simp only [setCells]
    have := lrel_setCells as r _ _ (off + 1) (lrel_set h off h1) h2
    have e : List.foldl (fun cs (p : Value × Nat) => cs.set (off + p.2) p.1) vs (u :: r).zipIdx = List.foldl (fun cs (p : Value × Nat) => cs.set (off + 1 + p.2) p.1) (vs.set off u) r.zipIdx := by
      rw [List.zipIdx_cons, List.foldl_cons]
      simp only [Nat.add_zero]
      have : ∀ (r : List Value) (k : Nat) (vs : List Value), List.foldl (fun cs (p : Value × Nat) => cs.set (off + p.2) p.1) vs (r.zipIdx (k + 1)) = List.foldl (fun cs (p : Value × Nat) => cs.set (off + 1 + p.2) p.1) vs (r.zipIdx k) := by
        intro r
        induction r with
        | nil => intro k vs; simp
        | cons x r ih =>
          intro k vs
          rw [List.zipIdx_cons, List.zipIdx_cons, List.foldl_cons, List.foldl_cons, ih]
          congr 2; omega
      exact this r 0 _
    rw [e]; exact this
@[simp] theorem length_setCells : ∀ (as l : List AV) (off : Nat), (setCells l off as).length = l.length
  | [], l, off => rfl
  | a :: as, l, off => by simp only [setCells]; rw [length_setCells]; simp

theorem zrel_get {g : Gam} : ∀ {l : List AV} {b o : Nat} (i : Nat) (a : AV), zrel g l ⟨b, o, none⟩ → l[i]? = some a → ∃ v, g.Z b (o + i) = some v ∧ vrel g a v
  | [], b, o, i, a, e, h => by simp at h
  | c :: l, b, o, 0, a, e, h => by
    simp only [zrel] at e
    simp at h; subst h; exact e.2.1
  | c :: l, b, o, i + 1, a, e, h => by
    simp only [zrel] at e
    obtain ⟨v, hv, h1⟩ := zrel_get i a e.2.2 (by simpa using h)
    exact ⟨v, by rw [← hv]; congr 1; omega, h1⟩
theorem zrel_spot {g : Gam} {l : List AV} {x : Addr} (h : zrel g l x) (hl : l ≠ []) : x.spot = none := by
  cases l with
  | nil => exact absurd rfl hl
  | cons a l => simp only [zrel] at h; exact h.1
theorem zrel_of {g : Gam} : ∀ {l : List AV} {b o : Nat}, (∀ (i : Nat) (a : AV), l[i]? = some a → ∃ v, g.Z b (o + i) = some v ∧ vrel g a v) → zrel g l ⟨b, o, none⟩
  | [], _, _, _ => by simp only [zrel]
  | a :: l, b, o, h => by
    simp only [zrel]
    refine ⟨trivial, ?_, zrel_of fun i c hc => ?_⟩
    · simpa using h 0 a (by simp)
    · obtain ⟨v, hv, h1⟩ := h (i + 1) c (by simpa using hc)
      exact ⟨v, by rw [← hv]; congr 1; omega, h1⟩
theorem zrel_drop {g : Gam} (n : Nat) {l : List AV} {x : Addr} (h : zrel g l x) (hn : n < l.length) : zrel g (l.drop n) ⟨x.block, x.off + n, none⟩ := by
  have hs := zrel_spot h (by intro e; subst e; simp at hn)
  obtain ⟨b, o, s⟩ := x
  simp only at hs; subst hs
  exact zrel_of fun i a ha => by
    rw [List.getElem?_drop] at ha
    obtain ⟨v, hv, h1⟩ := zrel_get _ _ h ha
    exact ⟨v, by rw [← hv]; congr 1; simp only; omega, h1⟩
theorem zrel_take {g : Gam} (n : Nat) {l : List AV} {x : Addr} (h : zrel g l x) : zrel g (l.take n) x := by
  by_cases hl : l = []
  · subst hl; simp only [List.take_nil]; exact h
  have hs := zrel_spot h hl
  obtain ⟨b, o, s⟩ := x
  simp only at hs; subst hs
  exact zrel_of fun i a ha => by
    rw [List.getElem?_take] at ha
    split at ha
    · exact zrel_get _ _ h ha
    · simp at ha
end Go.Ab

/- The state of the abstract machine against a world: how it is kept by what operations do to memory. -/
namespace Go.Ab

def BlkAt (g : Gam) (w : World) (cs : List AV) (b o sz : Nat) : Prop :=
  ∃ (c : Array Value) (e : TypeId) (fz : Nat × Nat), w.heap[b]? = some (.cells c e fz) ∧ c.size = sz ∧ (∀ i, i < sz → ¬ (fz.1 ≤ i ∧ i < fz.2)) ∧
    o + cs.length ≤ sz ∧ ∀ (i : Nat) (a : AV), cs[i]? = some a → ∃ v, c[o + i]? = some v ∧ vrel g a v

/-- What a stretch of a run started from: the memory, and what of it is known for good. -/
structure Base where
  arr : Array Obj
  os : Os
  output : Array (Nat × ByteArray)
  Z : Nat → Nat → Option Value
/-- Nothing has been said to the world outside. -/
def Kin (w w' : World) : Prop := w'.os = w.os ∧ w'.output = w.output
def Base.size (h : Base) : Nat := h.arr.size

structure RW (M : Nat → Prop) (h0 : Base) (g : Gam) (be : Nat → Option Nat) (bx : Bx) (S : Heap) (w : World) : Prop where
  zone : ∀ b o v, g.Z b o = some v → w.cell? ⟨b, o, none⟩ = some v
  live : ∀ id b o sz, g.phi id = some (some (b, o, sz)) → ∃ cs, S.blk id = some cs ∧ BlkAt g w cs b o sz
  dead : ∀ id, g.phi id = some none → S.blk id = none
  fresh : ∀ id, S.next ≤ id → g.phi id = none
  yfresh : ∀ y, S.next ≤ y → g.yl y = none
  box : ∀ (s : Nat) cs, bx.getD s none = some cs → ∃ b sz, be s = some b ∧ BlkAt g w cs b 0 sz
  boxOf : ∀ (s : Nat) b, be s = some b → ∃ cs, bx.getD s none = some cs
  dist : ∀ id id' b o sz o' sz', g.phi id = some (some (b, o, sz)) → g.phi id' = some (some (b, o', sz')) → id = id'
  bdist : ∀ s s' b, be s = some b → be s' = some b → s = s'
  hdist : ∀ id s b o sz, g.phi id = some (some (b, o, sz)) → be s ≠ some b
  hZ : ∀ id b o sz x, g.phi id = some (some (b, o, sz)) → g.Z b x = none
  bZ : ∀ s b x, be s = some b → g.Z b x = none
  hM : ∀ id b o sz, g.phi id = some (some (b, o, sz)) → M b
  bM : ∀ s b, be s = some b → M b
  frame : ∀ b, ¬ M b → w.heap[b]? = h0.arr[b]?
  zM : ∀ b x, ¬ M b → g.Z b x = h0.Z b x
  size : h0.size ≤ w.heap.size
  os : w.os = h0.os
  outp : w.output = h0.output

/-- A block that belongs to no part of the state. -/
structure Free (M : Nat → Prop) (g : Gam) (be : Nat → Option Nat) (b : Nat) : Prop where
  h : ∀ id o sz, g.phi id ≠ some (some (b, o, sz))
  s : ∀ s, be s ≠ some b
  z : ∀ x, g.Z b x = none
  m : M b

theorem BlkAt.lt {g w cs b o sz} (h : BlkAt g w cs b o sz) : b < w.heap.size := by
  obtain ⟨c, e, fz, h, _⟩ := h
  exact (Array.getElem?_eq_some_iff.1 h).1
theorem BlkAt.mono {g g' w w' cs b o sz} (h : BlkAt g w cs b o sz) (le : g.le g') (hb : w'.heap[b]? = w.heap[b]?) : BlkAt g' w' cs b o sz := by
  obtain ⟨c, e, fz, h1, h2, h3, h4, h5⟩ := h
  exact ⟨c, e, fz, hb.trans h1, h2, h3, h4, fun i a ha => let ⟨v, hv, hr⟩ := h5 i a ha; ⟨v, hv, vrel_mono le a v hr⟩⟩

section
variable {M : Nat → Prop} {h0 : Base} {g : Gam} {be : Nat → Option Nat} {bx : Bx} {S : Heap} {w : World}

theorem RW.zlt (h : RW M h0 g be bx S w) {b o v} (hz : g.Z b o = some v) : b < w.heap.size :=
  World.block_lt_of_cell? w ⟨b, o, none⟩ (h.zone b o v hz)
theorem RW.free (h : RW M h0 g be bx S w) (hM : ∀ b, h0.size ≤ b → M b) {b : Nat} (hb : w.heap.size ≤ b) : Free M g be b where
  h := fun id o sz e => by obtain ⟨cs, _, hk⟩ := h.live _ _ _ _ e; have := hk.lt; omega
  s := fun s e => by obtain ⟨cs, hc⟩ := h.boxOf _ _ e; obtain ⟨b', sz, he, hk⟩ := h.box _ _ hc; rw [e] at he; cases he; have := hk.lt; omega
  z := fun x => by
    cases hx : g.Z b x with
    | none => rfl
    | some v => have := h.zlt hx; omega
  m := hM b (Nat.le_trans h.size hb)

theorem RW.world {w' : World} (h : RW M h0 g be bx S w) (hM : ∀ b, h0.size ≤ b → M b) (hs : w.heap.size ≤ w'.heap.size ∧ Kin w w') (hb : ∀ b, b < w.heap.size → w'.heap[b]? = w.heap[b]?) : RW M h0 g be bx S w' :=
  { h with
    zone := fun b o v hz => by have hl := h.zlt hz; rw [← h.zone b o v hz]; simp only [World.cell?, hb b hl]
    live := fun id b o sz e => by obtain ⟨cs, h1, h2⟩ := h.live _ _ _ _ e; exact ⟨cs, h1, h2.mono (.refl g) (hb b h2.lt)⟩
    box := fun s cs e => by obtain ⟨b, sz, h1, h2⟩ := h.box _ _ e; exact ⟨b, sz, h1, h2.mono (.refl g) (hb b h2.lt)⟩
    frame := fun b hn => by
      rw [← h.frame b hn]
      by_cases hl : b < w.heap.size
      · exact hb b hl
      · exact absurd (hM b (Nat.le_trans h.size (by omega))) hn
    size := Nat.le_trans h.size hs.1
    os := hs.2.1.trans h.os
    outp := hs.2.2.trans h.outp }

def Gam.setPhi (g : Gam) (id : Nat) (x : Option (Nat × Nat × Nat)) : Gam := { g with phi := fun j => if j = id then some x else g.phi j }
def Gam.addZ (g : Gam) (b o n : Nat) (f : Nat → Option Value) : Gam := { g with Z := fun b' x => if b' = b ∧ o ≤ x ∧ x < o + n then f x else g.Z b' x }
theorem Gam.le_new {g : Gam} {id : Nat} (h : g.phi id = none) (x) : g.le (g.setPhi id x) :=
  ⟨fun i y hy => by
    by_cases e : i = id
    · subst e; rw [h] at hy; cases hy
    · simp [Gam.setPhi, e, hy], fun _ _ _ h => h, fun _ _ h => h⟩
theorem Gam.le_kill (g : Gam) (id : Nat) : g.le (g.setPhi id none) :=
  ⟨fun i y hy => by
    by_cases e : i = id
    · subst e; exact .inr (by simp [Gam.setPhi])
    · simp [Gam.setPhi, e, hy], fun _ _ _ h => h, fun _ _ h => h⟩
theorem Gam.le_addZ {g : Gam} {b o n f} (h : ∀ x, g.Z b x = none) : g.le (g.addZ b o n f) :=
  ⟨fun i y hy => .inl hy, fun b' x v hv => by
    simp only [Gam.addZ]
    split
    · rename_i hc; rw [hc.1, h] at hv; cases hv
    · exact hv, fun _ _ h => h⟩

/-- A new block of the heap. -/
theorem RW.newHeap (h : RW M h0 g be bx S w) {cs : List AV} {b o sz : Nat} (hf : Free M g be b) (hk : BlkAt g w cs b o sz) :
    RW M h0 (g.setPhi S.next (some (b, o, sz))) be bx (S.alloc cs) w ∧ g.le (g.setPhi S.next (some (b, o, sz))) := by
  have hn := h.fresh S.next (Nat.le_refl _)
  have le : g.le (g.setPhi S.next (some (b, o, sz))) := Gam.le_new hn _
  have hphi : ∀ id b' o' sz', (g.setPhi S.next (some (b, o, sz))).phi id = some (some (b', o', sz')) →
      (id = S.next ∧ b' = b ∧ o' = o ∧ sz' = sz) ∨ (id ≠ S.next ∧ g.phi id = some (some (b', o', sz'))) := by
    intro id b' o' sz' e
    simp only [Gam.setPhi] at e
    split at e
    · rename_i hi; simp at e; exact .inl ⟨hi, e.1.symm, e.2.1.symm, e.2.2.symm⟩
    · rename_i hi; exact .inr ⟨hi, e⟩
  refine ⟨{ h with
    yfresh := fun y e => h.yfresh y (by simp only [Heap.alloc] at e; omega)
    live := fun id b' o' sz' e => ?_, dead := fun id e => ?_, fresh := fun id e => ?_, box := fun s cs' e => ?_, dist := fun id id' b' o' sz' o2 sz2 e e2 => ?_,
    hdist := fun id s b' o' sz' e => ?_, hZ := fun id b' o' sz' x e => ?_, hM := fun id b' o' sz' e => ?_ }, le⟩
  · rcases hphi _ _ _ _ e with ⟨rfl, rfl, rfl, rfl⟩ | ⟨hi, e⟩
    · exact ⟨cs, by simp [Heap.alloc], hk.mono le rfl⟩
    · obtain ⟨cs', h1, h2⟩ := h.live _ _ _ _ e
      exact ⟨cs', by simp [Heap.alloc, hi, h1], h2.mono le rfl⟩
  · simp only [Gam.setPhi] at e
    split at e
    · simp at e
    · rename_i hi; simp [Heap.alloc, hi, h.dead _ e]
  · simp only [Heap.alloc] at e
    simp only [Gam.setPhi]; rw [if_neg (by omega)]; exact h.fresh _ (by omega)
  · obtain ⟨b', sz', h1, h2⟩ := h.box _ _ e; exact ⟨b', sz', h1, h2.mono le rfl⟩
  · rcases hphi _ _ _ _ e with ⟨rfl, rfl, rfl, rfl⟩ | ⟨hi, e⟩ <;> rcases hphi _ _ _ _ e2 with ⟨rfl, hb, rfl, rfl⟩ | ⟨hi2, e2⟩
    · rfl
    · exact absurd e2 (hf.h _ _ _)
    · subst hb; rcases hphi _ _ _ _ e with ⟨rfl, _⟩ | ⟨_, e'⟩
      · rfl
      · exact absurd e' (hf.h _ _ _)
    · exact h.dist _ _ _ _ _ _ _ e e2
  · rcases hphi _ _ _ _ e with ⟨rfl, rfl, rfl, rfl⟩ | ⟨hi, e⟩
    · exact hf.s s
    · exact h.hdist _ _ _ _ _ e
  · rcases hphi _ _ _ _ e with ⟨rfl, rfl, rfl, rfl⟩ | ⟨hi, e⟩
    · exact hf.z x
    · exact h.hZ _ _ _ _ x e
  · rcases hphi _ _ _ _ e with ⟨rfl, rfl, rfl, rfl⟩ | ⟨hi, e⟩
    · exact hf.m
    · exact h.hM _ _ _ _ e

/-- A block of the heap dies. -/
theorem RW.kill (h : RW M h0 g be bx S w) (id : Nat) (hi : g.phi id ≠ none) : RW M h0 (g.setPhi id none) be bx (S.set id none) w ∧ g.le (g.setPhi id none) := by
  have le := Gam.le_kill g id
  have hphi : ∀ id' b' o' sz', (g.setPhi id none).phi id' = some (some (b', o', sz')) → id' ≠ id ∧ g.phi id' = some (some (b', o', sz')) := by
    intro id' b' o' sz' e
    simp only [Gam.setPhi] at e
    split at e
    · simp at e
    · rename_i hi; exact ⟨hi, e⟩
  refine ⟨{ h with
    live := fun id' b' o' sz' e => ?_, dead := fun id' e => ?_, fresh := fun id' e => ?_, box := fun s cs' e => ?_, dist := fun id1 id2 b' o' sz' o2 sz2 e e2 => ?_,
    hdist := fun id' s b' o' sz' e => ?_, hZ := fun id' b' o' sz' x e => ?_, hM := fun id' b' o' sz' e => ?_ }, le⟩
  · obtain ⟨hne, e⟩ := hphi _ _ _ _ e
    obtain ⟨cs', h1, h2⟩ := h.live _ _ _ _ e
    exact ⟨cs', by simp [Heap.set, hne, h1], h2.mono le rfl⟩
  · simp only [Gam.setPhi] at e
    simp only [Heap.set]
    split at e
    · rename_i hid; rw [if_pos hid]
    · rename_i hid; rw [if_neg hid]; exact h.dead _ e
  · simp only [Heap.set] at e
    have := h.fresh _ e
    simp only [Gam.setPhi]
    split
    · rename_i hid; subst hid; exact absurd this hi
    · exact this
  · obtain ⟨b', sz', h1, h2⟩ := h.box _ _ e; exact ⟨b', sz', h1, h2.mono le rfl⟩
  · exact h.dist _ _ _ _ _ _ _ (hphi _ _ _ _ e).2 (hphi _ _ _ _ e2).2
  · exact h.hdist _ _ _ _ _ (hphi _ _ _ _ e).2
  · exact h.hZ _ _ _ _ x (hphi _ _ _ _ e).2
  · exact h.hM _ _ _ _ (hphi _ _ _ _ e).2
theorem RW.killFree (h : RW M h0 g be bx S w) {id b o sz} (hi : g.phi id = some (some (b, o, sz))) : Free M (g.setPhi id none) be b where
  h := fun id' o' sz' e => by
    simp only [Gam.setPhi] at e
    split at e
    · simp at e
    · rename_i hne; exact hne (h.dist _ _ _ _ _ _ _ e hi)
  s := fun s => h.hdist _ _ _ _ _ hi
  z := fun x => h.hZ _ _ _ _ x hi
  m := h.hM _ _ _ _ hi

/-- A free block is frozen. -/
theorem RW.freeze (h : RW M h0 g be bx S w) {b o n : Nat} (hf : Free M g be b) (f : Nat → Option Value) (hc : ∀ x v, o ≤ x → x < o + n → f x = some v → w.cell? ⟨b, x, none⟩ = some v) :
    RW M h0 (g.addZ b o n f) be bx S w ∧ g.le (g.addZ b o n f) := by
  have le : g.le (g.addZ b o n f) := Gam.le_addZ hf.z
  have hZ' : ∀ b' x, b' ≠ b → (g.addZ b o n f).Z b' x = g.Z b' x := fun b' x hne => by simp [Gam.addZ, hne]
  refine ⟨{ h with
    zone := fun b' x v hz => ?_, live := fun id b' o' sz' e => ?_, box := fun s cs' e => ?_, hZ := fun id b' o' sz' x e => ?_, bZ := fun s b' x e => ?_,
    zM := fun b' x hn => (hZ' _ _ fun e => hn (by rw [e]; exact hf.m)).trans (h.zM b' x hn) }, le⟩
  · simp only [Gam.addZ] at hz
    split at hz
    · rename_i hx; obtain ⟨rfl, h1, h2⟩ := hx; exact hc x v h1 h2 hz
    · exact h.zone _ _ _ hz
  · obtain ⟨cs', h1, h2⟩ := h.live _ _ _ _ e; exact ⟨cs', h1, h2.mono le rfl⟩
  · obtain ⟨b', sz', h1, h2⟩ := h.box _ _ e; exact ⟨b', sz', h1, h2.mono le rfl⟩
  · rw [hZ' _ _ (fun hb => hf.h id o' sz' (hb ▸ e))]; exact h.hZ _ _ _ _ x e
  · rw [hZ' _ _ (fun hb => hf.s s (hb ▸ e))]; exact h.bZ _ _ x e

/-- A struct local is made. -/
theorem RW.newBox (h : RW M h0 g be bx S w) {cs : List AV} {b sz d : Nat} (hf : Free M g be b) (hk : BlkAt g w cs b 0 sz) (hd : bx[d]? = some none) :
    RW M h0 g (fun s => if s = d then some b else be s) (bx.set d (some cs)) S w ∧ (∀ s b', be s = some b' → (fun s => if s = d then some b else be s) s = some b') := by
  have hlt : d < bx.length := by
    rcases Nat.lt_or_ge d bx.length with h | h
    · exact h
    · simp [h] at hd
  have hnone : be d = none := by
    cases he : be d with
    | none => rfl
    | some b' =>
      obtain ⟨cs', hc⟩ := h.boxOf _ _ he
      simp only [List.getD_eq_getElem?_getD, hd, Option.getD_some] at hc; cases hc
  have hbx : ∀ s, (bx.set d (some cs)).getD s none = if s = d then some cs else bx.getD s none := by
    intro s
    simp only [List.getD_eq_getElem?_getD, List.getElem?_set]
    by_cases hs : d = s
    · subst hs; simp [hlt]
    · rw [if_neg hs, if_neg (fun e => hs e.symm)]
  refine ⟨{ h with
    box := fun s cs' e => ?_, boxOf := fun s b' e => ?_, bdist := fun s s' b' e e' => ?_, hdist := fun id s b' o' sz' e => ?_, bZ := fun s b' x e => ?_, bM := fun s b' e => ?_ }, fun s b' e => ?_⟩
  · rw [hbx] at e
    by_cases hs : s = d
    · rw [if_pos hs] at e; cases e; exact ⟨b, sz, by simp [hs], hk⟩
    · rw [if_neg hs] at e; obtain ⟨b', sz', h1, h2⟩ := h.box _ _ e; exact ⟨b', sz', by simp [hs, h1], h2⟩
  · rw [hbx]
    by_cases hs : s = d
    · exact ⟨cs, by rw [if_pos hs]⟩
    · rw [if_neg hs] at e; rw [if_neg hs]; exact h.boxOf _ _ e
  · split at e <;> split at e'
    · rename_i h1 h2; rw [h1, h2]
    · cases e; exact absurd e' (hf.s _)
    · cases e'; exact absurd e (hf.s _)
    · exact h.bdist _ _ _ e e'
  · split
    · intro e'; cases e'; exact hf.h _ _ _ e
    · exact h.hdist _ _ _ _ _ e
  · split at e
    · cases e; exact hf.z x
    · exact h.bZ _ _ x e
  · split at e
    · cases e; exact hf.m
    · exact h.bM _ _ e
  · show (if s = d then some b else be s) = some b'
    split
    · rename_i hs; subst hs; rw [hnone] at e; cases e
    · exact e

/-- A block of the heap is written. -/
theorem RW.writeHeap {w' : World} (h : RW M h0 g be bx S w) {cs : List AV} {id b o sz : Nat} (hi : g.phi id = some (some (b, o, sz))) (hs : w'.heap.size = w.heap.size ∧ Kin w w')
    (hb : ∀ b', b' ≠ b → w'.heap[b']? = w.heap[b']?) (hk : BlkAt g w' cs b o sz) : RW M h0 g be bx (S.set id (some cs)) w' :=
  { h with
    zone := fun b' x v hz => by
      have hne : b' ≠ b := fun e => by subst e; rw [h.hZ _ _ _ _ x hi] at hz; cases hz
      rw [← h.zone _ _ _ hz]; simp only [World.cell?, hb b' hne]
    live := fun id' b' o' sz' e => by
      by_cases hid : id' = id
      · subst hid; rw [hi] at e; cases e; exact ⟨cs, by simp [Heap.set], hk⟩
      · obtain ⟨cs', h1, h2⟩ := h.live _ _ _ _ e
        exact ⟨cs', by simp [Heap.set, hid, h1], h2.mono (.refl g) (hb _ fun hbb => hid (h.dist _ _ _ _ _ _ _ (hbb ▸ e) hi))⟩
    dead := fun id' e => by
      have hid : id' ≠ id := fun hh => by subst hh; rw [hi] at e; cases e
      simp [Heap.set, hid, h.dead _ e]
    fresh := fun id' e => h.fresh _ e
    box := fun s cs' e => by
      obtain ⟨b', sz', h1, h2⟩ := h.box _ _ e
      exact ⟨b', sz', h1, h2.mono (.refl g) (hb _ fun hbb => h.hdist _ s _ _ _ hi (hbb ▸ h1))⟩
    frame := fun b' hn => by rw [← h.frame b' hn]; exact hb _ fun e => hn (e ▸ h.hM _ _ _ _ hi)
    size := by rw [hs.1]; exact h.size
    os := hs.2.1.trans h.os
    outp := hs.2.2.trans h.outp }

/-- A struct local is written. -/
theorem RW.writeBox {w' : World} (h : RW M h0 g be bx S w) {cs : List AV} {s b sz : Nat} (hi : be s = some b) (hs : w'.heap.size = w.heap.size ∧ Kin w w')
    (hb : ∀ b', b' ≠ b → w'.heap[b']? = w.heap[b']?) (hk : BlkAt g w' cs b 0 sz) : RW M h0 g be (bx.set s (some cs)) S w' := by
  have hlt : s < bx.length := by
    obtain ⟨c, hc⟩ := h.boxOf _ _ hi
    rcases Nat.lt_or_ge s bx.length with h | h
    · exact h
    · simp [List.getD_eq_getElem?_getD, h] at hc
  have hbx : ∀ s', (bx.set s (some cs)).getD s' none = if s' = s then some cs else bx.getD s' none := by
    intro s'
    simp only [List.getD_eq_getElem?_getD, List.getElem?_set]
    by_cases he : s = s'
    · subst he; simp [hlt]
    · rw [if_neg he, if_neg (fun e => he e.symm)]
  exact { h with
    zone := fun b' x v hz => by
      have hne : b' ≠ b := fun e => by subst e; rw [h.bZ _ _ x hi] at hz; cases hz
      rw [← h.zone _ _ _ hz]; simp only [World.cell?, hb b' hne]
    live := fun id' b' o' sz' e => by
      obtain ⟨cs', h1, h2⟩ := h.live _ _ _ _ e
      exact ⟨cs', h1, h2.mono (.refl g) (hb _ fun hbb => h.hdist _ s _ _ _ (hbb ▸ e) hi)⟩
    box := fun s' cs' e => by
      rw [hbx] at e
      by_cases he : s' = s
      · rw [if_pos he] at e; cases e; subst he; exact ⟨b, sz, hi, hk⟩
      · rw [if_neg he] at e; obtain ⟨b', sz', h1, h2⟩ := h.box _ _ e
        exact ⟨b', sz', h1, h2.mono (.refl g) (hb _ fun hbb => he (h.bdist _ _ _ (hbb ▸ h1) hi))⟩
    boxOf := fun s' b' e => by
      rw [hbx]
      by_cases he : s' = s
      · exact ⟨cs, by rw [if_pos he]⟩
      · rw [if_neg he]; exact h.boxOf _ _ e
    frame := fun b' hn => by rw [← h.frame b' hn]; exact hb _ fun e => hn (e ▸ h.bM _ _ hi)
    size := by rw [hs.1]; exact h.size
    os := hs.2.1.trans h.os
    outp := hs.2.2.trans h.outp }
end
end Go.Ab

/- What the model's reads, writes and new rows do, in the words of Rel and World. -/
namespace Go.Ab

@[simp] theorem addr_add (b o i : Nat) : (⟨b, o, none⟩ : Addr).add i = ⟨b, o + i, none⟩ := by
  unfold Addr.add
  split
  · rename_i h; subst h; rfl
  · rfl

section
variable {P : Program}

theorem run_typeInfo' {t : TypeId} {i : TypeInfo} (h : P.info? t = some i) (w : World) : (typeInfo t).run P w = .ok i w := by simp [typeInfo, h]
theorem run_sizeOf' {t : TypeId} {n : Nat} (h : tsize P t = some n) (w : World) : (sizeOf t).run P w = .ok n w := by
  unfold tsize at h
  cases hi : P.info? t with
  | none => simp [hi] at h
  | some i => simp [hi] at h; simp [sizeOf, typeInfo, hi, h]
theorem run_isAgg' {t : TypeId} {ag : Bool} (h : tagg P t = some ag) (w : World) : (isAgg t).run P w = .ok ag w := by
  unfold tagg at h
  cases hu : P.underlying t with
  | none => simp [hu] at h
  | some d => cases d <;> simp [hu] at h <;> subst h <;> simp [isAgg, underlying, hu]
theorem run_zeroValue' {t : TypeId} {i : TypeInfo} {z : Value} (h : P.info? t = some i) (hz : i.zero = some z) (w : World) : (zeroValue t).run P w = .ok z w := by
  simp [zeroValue, typeInfo, h, hz]

theorem run_loadCellsFrom {w : World} {b o : Nat} : ∀ (n i : Nat) (acc : Array Value) (vs : List Value), vs.length = n →
    (∀ (j : Nat) v, vs[j]? = some v → w.cell? ⟨b, o + i + j, none⟩ = some v) →
    (loadCellsFrom ⟨b, o, none⟩ i n acc).run P w = .ok (acc ++ vs.toArray) w
  | 0, i, acc, vs, hl, _ => by
    have : vs = [] := List.eq_nil_of_length_eq_zero hl
    subst this; simp [loadCellsFrom]
  | n + 1, i, acc, [], hl, _ => by simp at hl
  | n + 1, i, acc, v :: vs, hl, h => by
    have h0 := h 0 v (by simp)
    simp only [Nat.add_zero] at h0
    have ih := run_loadCellsFrom (w := w) (b := b) (o := o) n (i + 1) (acc.push v) vs (by simpa using hl) fun j u hj => by
      have := h (j + 1) u (by simpa using hj)
      rw [← this]; congr 2; omega
    simp only [loadCellsFrom, Sem.run_bind, run_load, addr_add, h0, Result.andThen_ok, ih]
    simp
theorem run_loadCells {w : World} {b o n : Nat} {vs : List Value} (hl : vs.length = n) (h : ∀ (j : Nat) v, vs[j]? = some v → w.cell? ⟨b, o + j, none⟩ = some v) :
    (loadCells ⟨b, o, none⟩ n).run P w = .ok vs.toArray w := by
  unfold loadCells
  rw [run_loadCellsFrom n 0 #[] vs hl (by simpa using h)]
  simp

def setVals : List Value → Nat → List Value → List Value
  | cs, _, [] => cs
  | cs, off, v :: vs => setVals (cs.set off v) (off + 1) vs
@[simp] theorem length_setVals : ∀ (as l : List Value) (off : Nat), (setVals l off as).length = l.length
  | [], l, off => rfl
  | a :: as, l, off => by simp only [setVals]; rw [length_setVals]; simp

theorem cell_of_block {w : World} {b : Nat} {c : Array Value} {e : TypeId} {fz : Nat × Nat} (h : w.heap[b]? = some (.cells c e fz)) (o : Nat) : w.cell? ⟨b, o, none⟩ = c[o]? := by
  simp [World.cell?, h]

theorem run_storeCells {b o : Nat} {e : TypeId} {fz : Nat × Nat} : ∀ (vs : List Value) (i : Nat) (w : World) (c : Array Value), w.heap[b]? = some (.cells c e fz) →
    o + i + vs.length ≤ c.size → (∀ x, x < c.size → ¬ (fz.1 ≤ x ∧ x < fz.2)) → (∀ v ∈ vs, v.oneCell' = true) →
    ∃ w', (storeCells ⟨b, o, none⟩ vs i).run P w = .ok () w' ∧ (w'.heap.size = w.heap.size ∧ Kin w w') ∧ (∀ b', b' ≠ b → w'.heap[b']? = w.heap[b']?) ∧
      w'.heap[b]? = some (.cells (setVals c.toList (o + i) vs).toArray e fz)
  | [], i, w, c, hb, _, _, _ => ⟨w, by simp [storeCells], ⟨rfl, rfl, rfl⟩, fun _ _ => rfl, by simp [setVals, hb]⟩
  | v :: vs, i, w, c, hb, hl, hf, hv => by
    simp only [List.length_cons] at hl
    have hc : w.cell? ⟨b, o + i, none⟩ = some (c[o + i]'(by omega)) := by
      rw [cell_of_block hb]; simp [show o + i < c.size by omega]
    have hfz : w.frozen? ⟨b, o + i, none⟩ = false := by
      simp only [World.frozen?, hb]
      have := hf (o + i) (by omega)
      simpa using this
    have hset : (w.setCell ⟨b, o + i, none⟩ v).heap[b]? = some (.cells (c.setIfInBounds (o + i) v) e fz) := by
      simp [World.setCell, Array.getElem?_modify, hb]
    obtain ⟨w', h1, h2, h3, h4⟩ := run_storeCells (o := o) vs (i + 1) (w.setCell ⟨b, o + i, none⟩ v) (c.setIfInBounds (o + i) v) hset (by simp; omega) (by simpa using hf) (fun u hu => hv u (by simp [hu]))
    refine ⟨w', ?_, ?_, ?_, ?_⟩
    · simp only [storeCells, Sem.run_bind, addr_add, run_store P w _ v .plain (hv v (by simp)), hc, hfz, Bool.false_eq_true, if_false, Result.andThen_ok, h1]
    · exact ⟨by rw [h2.1]; simp [World.setCell], h2.2.1, h2.2.2⟩
    · intro b' hne
      rw [h3 b' hne]
      simp only [World.setCell, Array.getElem?_modify]
      rw [if_neg (fun e => hne e.symm)]
    · rw [h4]
      simp only [setVals, Array.toList_setIfInBounds, Nat.add_assoc]

/-- The cells behind an address that lies in known memory. -/
theorem cells_at_zone {M h0 g be bx S} {w : World} (R : RW M h0 g be bx S w) {l : List AV} {b o : Nat} (h : zrel g l ⟨b, o, none⟩) :
    ∃ vs, lrel g l vs ∧ ∀ (j : Nat) v, vs[j]? = some v → w.cell? ⟨b, o + j, none⟩ = some v := by
  induction l generalizing o with
  | nil => exact ⟨[], by simp [lrel], by simp⟩
  | cons a l ih =>
    simp only [zrel] at h
    obtain ⟨_, ⟨v, hz, hv⟩, h2⟩ := h
    obtain ⟨vs, h3, h4⟩ := ih h2
    refine ⟨v :: vs, by simp only [lrel]; exact ⟨v, vs, rfl, hv, h3⟩, fun j u hj => ?_⟩
    cases j with
    | zero => simp at hj; subst hj; exact R.zone _ _ _ hz
    | succ j => have := h4 j u (by simpa using hj); rw [← this]; congr 2; omega
theorem cells_at_block {g : Gam} {w : World} {cs : List AV} {b o sz : Nat} (h : BlkAt g w cs b o sz) (off n : Nat) (hn : off + n ≤ cs.length) :
    ∃ vs, vs.length = n ∧ lrel g ((cs.drop off).take n) vs ∧ ∀ (j : Nat) v, vs[j]? = some v → w.cell? ⟨b, o + off + j, none⟩ = some v := by
  obtain ⟨c, e, fz, h1, h2, h3, h4, h5⟩ := h
  refine ⟨(c.toList.drop (o + off)).take n, by simp; omega, lrel_of (by simp; omega) fun i a ha => ?_, fun j v hj => ?_⟩
  · rw [List.getElem?_take] at ha
    split at ha
    · rename_i hi
      rw [List.getElem?_drop] at ha
      obtain ⟨v, hv, hr⟩ := h5 _ _ ha
      refine ⟨v, ?_, hr⟩
      rw [List.getElem?_take, if_pos hi, List.getElem?_drop]
      rw [← hv, Nat.add_assoc, Array.getElem?_toList]
    · simp at ha
  · rw [List.getElem?_take] at hj
    split at hj
    · rw [List.getElem?_drop, Array.getElem?_toList] at hj
      rw [cell_of_block h1, hj]
    · simp at hj
theorem BlkAt.set {g : Gam} {w w' : World} {cs : List AV} {b o sz : Nat} (h : BlkAt g w cs b o sz) {as : List AV} {us : List Value} {off : Nat} (hn : off + as.length ≤ cs.length) (hr : lrel g as us)
    (hw : ∀ c e fz, w.heap[b]? = some (.cells c e fz) → w'.heap[b]? = some (.cells (setVals c.toList (o + off) us).toArray e fz)) : BlkAt g w' (setCells cs off as) b o sz := by
  obtain ⟨c, e, fz, h1, h2, h3, h4, h5⟩ := h
  refine ⟨_, e, fz, hw c e fz h1, by simp [h2], h3, by simpa using h4, ?_⟩
  have key : ∀ (as : List AV) (us : List Value) (cs : List AV) (c : List Value) (off : Nat), off + as.length ≤ cs.length → o + cs.length ≤ c.length → lrel g as us →
      (∀ (i : Nat) (a : AV), cs[i]? = some a → ∃ v, c[o + i]? = some v ∧ vrel g a v) →
      ∀ (i : Nat) (a : AV), (setCells cs off as)[i]? = some a → ∃ v, (setVals c (o + off) us)[o + i]? = some v ∧ vrel g a v := by
    intro as
    induction as with
    | nil => intro us cs c off _ _ hr h i a ha; simp only [lrel] at hr; subst hr; exact h i a ha
    | cons x as ih =>
      intro us cs c off hn hc hr h i a ha
      simp only [lrel] at hr
      obtain ⟨v, r, rfl, hv, hr⟩ := hr
      simp only [List.length_cons] at hn
      simp only [setCells] at ha
      simp only [setVals]
      have := ih r (cs.set off x) (c.set (o + off) v) (off + 1) (by simp; omega) (by simpa using hc) hr (fun j y hy => by
        rw [List.getElem?_set] at hy ⊢
        by_cases hj : off = j
        · subst hj
          rw [if_pos rfl] at hy
          rw [if_pos (by omega), if_pos (by omega)]
          split at hy
          · cases hy; exact ⟨v, rfl, hv⟩
          · cases hy
        · rw [if_neg hj] at hy
          rw [if_neg (by omega)]
          exact h j y hy) i a ha
      exact this
  intro i a ha
  obtain ⟨v, hv, hr'⟩ := key as us cs c.toList off hn (by simpa [h2] using h4) hr (fun i a ha => by obtain ⟨v, hv, hr⟩ := h5 i a ha; exact ⟨v, by simpa using hv, hr⟩) i a ha
  exact ⟨v, by simpa using hv, hr'⟩
theorem cell_oneCell {g : Gam} {a : AV} {v : Value} (h : cell a = true) (r : vrel g a v) : v.oneCell' = true := by
  cases a <;> simp [cell] at h <;> simp only [vrel] at r
  case ptr => obtain ⟨_, rfl, _⟩ := r; rfl
  case iptr => obtain ⟨_, rfl, _⟩ := r; rfl
  case hs => obtain ⟨_, _, rfl, _⟩ := r; rfl
  case is => obtain ⟨_, _, rfl, _⟩ := r; rfl
  case fn => obtain ⟨_, _, rfl, _⟩ := r; rfl
  case yld => obtain ⟨_, _, rfl⟩ := r; rfl
  all_goals (subst r; rfl)
theorem lrel_oneCell {g : Gam} : ∀ {as : List AV} {us : List Value}, as.all cell = true → lrel g as us → ∀ v ∈ us, v.oneCell' = true
  | [], us, _, r, v, hv => by simp only [lrel] at r; subst r; cases hv
  | a :: as, us, h, r, v, hv => by
    simp only [lrel] at r
    obtain ⟨u, q, rfl, h1, h2⟩ := r
    simp only [List.all_cons, Bool.and_eq_true] at h
    rcases List.mem_cons.1 hv with rfl | hv
    · exact cell_oneCell h.1 h1
    · exact lrel_oneCell h.2 h2 v hv
end
end Go.Ab

/- The operations without memory, reads, writes and new rows: what the abstract machine says of them, the model does. -/
namespace Go.Ab

section elim
variable {α β : Type}
theorem bO_some {o : Option α} {f : α → Option β} {r : β} : bO o f = some r ↔ ∃ a, o = some a ∧ f a = some r := by
  cases o <;> simp [bO]
theorem gB_some {b : Bool} {k : Option β} {r : β} : gB b k = some r ↔ b = true ∧ k = some r := by
  cases b <;> simp [gB]
theorem asBool_some {a : AV} {f : Bool → Option β} {r : β} : asBool a f = some r ↔ ∃ b, a = .bool b ∧ f b = some r := by
  cases a <;> simp [asBool]
theorem asInt_some {k : IntKind} {a : AV} {f : Int → Option β} {r : β} : asInt k a f = some r ↔ ∃ n, a = .int k n ∧ f n = some r := by
  cases a <;> simp [asInt]
  rename_i k' n
  constructor
  · rintro ⟨h, e⟩; exact ⟨n, ⟨h, rfl⟩, e⟩
  · rintro ⟨m, ⟨h, rfl⟩, e⟩; exact ⟨h, e⟩
theorem asStr_some {a : AV} {f : ByteArray → Option β} {r : β} : asStr a f = some r ↔ ∃ b, a = .str b ∧ f b = some r := by
  cases a <;> simp [asStr]
theorem asTup_some {a : AV} {f : List AV → Option β} {r : β} : asTup a f = some r ↔ ∃ b, a = .tup b ∧ f b = some r := by
  cases a <;> simp [asTup]
theorem asAgg_some {a : AV} {f : List AV → Option β} {r : β} : asAgg a f = some r ↔ ∃ b, a = .agg b ∧ f b = some r := by
  cases a <;> simp [asAgg]
theorem asCons_some {l : List AV} {f : AV → List AV → Option β} {r : β} : asCons l f = some r ↔ ∃ a t, l = a :: t ∧ f a t = some r := by
  cases l with
  | nil => simp [asCons]
  | cons a t => simp only [asCons]; exact ⟨fun h => ⟨a, t, rfl, h⟩, fun ⟨_, _, e, h⟩ => by cases e; exact h⟩
end elim

def entrel (g : Gam) (be : Nat → Option Nat) : Ent → Value → Prop
  | .v a, v => vrel g a v
  | .ref s off, v => ∃ b, be s = some b ∧ v = .pointer (some ⟨b, off, none⟩)
def erel (g : Gam) (be : Nat → Option Nat) (env : List Ent) (tmps : Array Value) : Prop :=
  env.length = tmps.size ∧ ∀ (t : Nat) e, env[t]? = some e → entrel g be e (tmps.getD t undef)

def bele (be be' : Nat → Option Nat) : Prop := ∀ s b, be s = some b → be' s = some b
theorem entrel_mono {g g' be be'} (le : g.le g') (lb : bele be be') {e v} (h : entrel g be e v) : entrel g' be' e v := by
  cases e with
  | v a => exact vrel_mono le a v h
  | ref s off => obtain ⟨b, h1, h2⟩ := h; exact ⟨b, lb _ _ h1, h2⟩
theorem erel_mono {g g' be be'} (le : g.le g') (lb : bele be be') {env tmps} (h : erel g be env tmps) : erel g' be' env tmps :=
  ⟨h.1, fun t e he => entrel_mono le lb (h.2 t e he)⟩
theorem erel_put {g be env} {a : Act} {e v} (h : erel g be env a.tmps) (he : entrel g be e v) (dst : Option Nat) : erel g be (putE env dst e) (a.put dst v).tmps := by
  cases dst with
  | none => exact h
  | some d =>
    refine ⟨by simp [putE, Act.put, h.1], fun t x hx => ?_⟩
    simp only [putE, List.getElem?_set] at hx
    simp only [Act.put, Array.getD_eq_getD_getElem?, Array.getElem?_setIfInBounds]
    split at hx
    · rename_i hd
      subst hd
      split at hx
      · rename_i hl
        cases hx
        rw [if_pos rfl, if_pos (by rw [← h.1]; exact hl)]
        exact he
      · cases hx
    · rename_i hd
      rw [if_neg hd]
      have := h.2 t x hx
      simpa [Array.getD_eq_getD_getElem?] using this

theorem ofS_rel {g : Gam} {v : Value} {a : AV} (h : ofS v = some a) : vrel g a v := by
  unfold ofS at h
  split at h <;> first | (cases h; simp only [vrel]; done) | cases h
theorem ofL_rel {g : Gam} : ∀ {l : List Value} {r : List AV}, ofL l = some r → lrel g r l
  | [], r, h => by simp only [ofL] at h; cases h; simp only [lrel]
  | v :: l, r, h => by
    simp only [ofL] at h
    split at h
    · rename_i a ha
      split at h
      · rename_i q hq
        cases h
        simp only [lrel]
        exact ⟨v, l, rfl, ofS_rel ha, ofL_rel hq⟩
      · cases h
    · cases h
theorem ofV_rel {g : Gam} {v : Value} {a : AV} (h : ofV v = some a) : vrel g a v := by
  unfold ofV at h
  split at h
  · rename_i cs
    cases hl : ofL cs.toList with
    | none => simp [hl] at h
    | some r => simp [hl] at h; subst h; simp only [vrel]; exact ⟨cs.toList, by simp, ofL_rel hl⟩
  · exact ofS_rel h

/-- The tables that the program's text lays lie in known memory. -/
def GOk (G : Nat → Option (List AV)) (g : Gam) : Prop := ∀ i cs, G i = some cs → zrel g cs ⟨i, 0, none⟩
theorem GOk.mono {G g g'} (h : GOk G g) (le : g.le g') : GOk G g' := fun i cs e => zrel_mono le cs _ (h i cs e)

section
variable {P : Program} {G : Nat → Option (List AV)} {M : Nat → Prop} {h0 : Base} {g : Gam} {be : Nat → Option Nat} {bx : Bx} {S : Heap} {w : World} {env : List Ent} {act : Act}

theorem opd_rel (hG : GOk G g) (he : erel g be env act.tmps) (o : Operand) : entrel g be (opd G env o) (act.eval o) := by
  cases o with
  | tmp t =>
    simp only [opd, Act.eval, List.getD_eq_getElem?_getD]
    cases h : env[t]? with
    | none => simp [entrel, vrel]
    | some e => exact he.2 t e h
  | const v =>
    simp only [opd, Act.eval]
    cases h : ofV v with
    | none => simp [entrel, vrel]
    | some a => exact ofV_rel h
  | global i =>
    simp only [opd, gAV, Act.eval]
    cases h : G i with
    | none => simp [entrel, vrel]
    | some cs => simp only [entrel, vrel]; exact ⟨⟨i, 0, none⟩, rfl, hG i cs h⟩
  | func f => simp only [opd, Act.eval, entrel, vrel]; exact ⟨[], [], rfl, by simp [lrel], by simp [lrel]⟩
theorem opv_rel (hG : GOk G g) (he : erel g be env act.tmps) {o : Operand} {a : AV} (h : opv G env o = some a) : vrel g a (act.eval o) := by
  have := opd_rel hG he o
  unfold opv at h
  split at h
  · rename_i x hx; cases h; rw [hx] at this; exact this
  · cases h
theorem opvs_rel (hG : GOk G g) (he : erel g be env act.tmps) : ∀ {l : List Operand} {r : List AV}, opvs G env l = some r → lrel g r (l.map act.eval)
  | [], r, h => by simp only [opvs] at h; cases h; simp [lrel]
  | o :: l, r, h => by
    simp only [opvs] at h
    split at h
    · rename_i a ha
      split at h
      · rename_i q hq
        cases h
        simp only [List.map_cons, lrel]
        exact ⟨_, _, rfl, opv_rel hG he ha, opvs_rel hG he hq⟩
      · cases h
    · cases h
theorem aParts_rel (hG : GOk G g) (he : erel g be env act.tmps) : ∀ {l : List (Nat × Operand)} {r : List (Nat × AV)}, aParts G env l = some r →
    ∃ vs : List (Nat × Value), vs = l.map (fun p => (p.1, act.eval p.2)) ∧ vs.length = r.length ∧ ∀ (i : Nat) j a, r[i]? = some (j, a) → ∃ v, vs[i]? = some (j, v) ∧ vrel g a v
  | [], r, h => by simp only [aParts] at h; cases h; exact ⟨[], rfl, rfl, by simp⟩
  | (i, o) :: l, r, h => by
    simp only [aParts] at h
    split at h
    · rename_i a q ha hq
      cases h
      obtain ⟨vs, h1, h2, h3⟩ := aParts_rel hG he hq
      refine ⟨(i, act.eval o) :: vs, by simp [h1], by simp [h2], fun k j b hk => ?_⟩
      cases k with
      | zero => simp at hk; obtain ⟨rfl, rfl⟩ := hk; exact ⟨_, by simp, opv_rel hG he ha⟩
      | succ k => simp at hk ⊢; exact h3 k j b hk
    · cases h

/-- What an operation that is no call comes to. -/
def OpRes (P : Program) (o : Oper) (act : Act) (w : World) (M : Nat → Prop) (h0 : Base) (g : Gam) (be : Nat → Option Nat) (out : Out) : Prop :=
  ∃ v' w' g' be', ((execOp act.eval o).run P w = .ok (.value v') w' ∨ ((execOp act.eval o).run P w = .ok .skip w' ∧ v' = undef)) ∧
    g.le g' ∧ bele be be' ∧ entrel g' be' out.e v' ∧ RW M h0 g' be' out.bx out.S w'

theorem OpRes.pure {o : Oper} {e : Ent} {v : Value} {ev : Ev} (R : RW M h0 g be bx S w) (hr : (execOp act.eval o).run P w = .ok (.value v) w) (he : entrel g be e v) :
    OpRes P o act w M h0 g be ⟨e, bx, S, ev⟩ := ⟨v, w, g, be, .inl hr, .refl g, fun _ _ h => h, he, R⟩

theorem zcells_spec {t : TypeId} {cs : List AV} (h : zcells P t = some cs) : ∃ i z, P.info? t = some i ∧ i.zero = some z ∧ lrel g cs z.cells.toList := by
  unfold zcells at h
  split at h
  · rename_i i hi
    split at h
    · rename_i z hz
      split at h
      · rename_i c hc
        cases h
        have := ofV_rel (g := g) hc
        simp only [vrel] at this
        obtain ⟨vs, rfl, hv⟩ := this
        exact ⟨i, _, hi, hz, by simpa [Value.cells] using hv⟩
      · rename_i a hna ha
        cases h
        have hr := ofV_rel (g := g) ha
        refine ⟨i, z, hi, hz, ?_⟩
        have hone : z.cells = #[z] := by
          unfold ofV at ha
          split at ha
          · rename_i c
            cases hl : ofL c.toList with
            | none => simp [hl] at ha
            | some r => simp [hl] at ha; exact absurd ha.symm (hna r)
          · rename_i hne
            cases z <;> first | rfl | (rename_i c; exact absurd rfl (hne c))
        rw [hone]
        simp only [lrel]
        exact ⟨z, [], rfl, hr, rfl⟩
      · cases h
    · cases h
  · cases h

theorem cells_rel {ag : Bool} {n : Nat} {a : AV} {v : Value} {β : Type} {K : List AV → Option β} {r : β} (h : cellsK ag n a K = some r) (hv : vrel g a v) :
    ∃ cs, K cs = some r ∧ cs.length = n ∧ lrel g cs v.cells.toList := by
  unfold cellsK at h
  cases ag with
  | true =>
    simp only [if_true, asAgg_some, gB_some] at h
    obtain ⟨cs, rfl, hl, hk⟩ := h
    simp only [vrel] at hv
    obtain ⟨vs, rfl, hr⟩ := hv
    exact ⟨cs, hk, by simpa using hl, by simpa [Value.cells] using hr⟩
  | false =>
    simp only [Bool.false_eq_true, if_false, gB_some] at h
    obtain ⟨hn, hc, hk⟩ := h
    refine ⟨[a], hk, by simpa using (by simpa using hn : n = 1).symm, ?_⟩
    have hone := cell_oneCell hc hv
    have : v.cells = #[v] := by cases v <;> first | rfl | (simp [Value.oneCell'] at hone)
    rw [this]
    simp only [lrel]
    exact ⟨v, [], rfl, hv, rfl⟩

theorem blk_new {t : TypeId} {cs : List AV} {c : Array Value} (hr : ∀ (i : Nat) a, cs[i]? = some a → ∃ v, c[i]? = some v ∧ vrel g a v) (hl : cs.length ≤ c.size) :
    BlkAt g (w.alloc (.cells c t)) cs w.heap.size 0 c.size :=
  ⟨c, t, (0, 0), heap_alloc_new w _, rfl, fun i _ h => by simp at h, by simpa using hl, fun i a ha => by simpa using hr i a ha⟩
theorem lrel_arr {cs : List AV} {c : Array Value} (h : lrel g cs c.toList) : (∀ (i : Nat) a, cs[i]? = some a → ∃ v, c[i]? = some v ∧ vrel g a v) ∧ cs.length ≤ c.size := by
  refine ⟨fun i a ha => ?_, ?_⟩
  · obtain ⟨v, h1, h2⟩ := lrel_get i a h ha
    exact ⟨v, by simpa using h1, h2⟩
  · have := lrel_length h; simp at this; omega

/-- A new row of cells: frozen, or of the heap. -/
theorem newRow_rel (hM : ∀ b, h0.size ≤ b → M b) (R : RW M h0 g be bx S w) {t : TypeId} {cs : List AV} {c : Array Value} (hr : ∀ (i : Nat) a, cs[i]? = some a → ∃ v, c[i]? = some v ∧ vrel g a v)
    (hl : cs.length ≤ c.size) (fz : Bool) {len cap es : Nat} (hlen : len ≤ cap) (hcap : cap * es ≤ c.size) :
    ∃ g' be', g.le g' ∧ bele be be' ∧ entrel g' be' (newRowA fz len es cs bx S).e (.slice (some ⟨w.heap.size, 0, none⟩) len cap) ∧
      RW M h0 g' be' (newRowA fz len es cs bx S).bx (newRowA fz len es cs bx S).S (w.alloc (.cells c t)) := by
  have R' : RW M h0 g be bx S (w.alloc (.cells c t)) := R.world hM ⟨by rw [World.size_alloc]; omega, rfl, rfl⟩ fun b hb => heap_alloc_old w _ b hb
  have hf := R.free hM (Nat.le_refl w.heap.size)
  cases fz with
  | true =>
    simp only [newRowA, if_true]
    have hc : ∀ x v, 0 ≤ x → x < 0 + c.size → (fun x => c[x]?) x = some v → (w.alloc (.cells c t)).cell? ⟨w.heap.size, x, none⟩ = some v := by
      intro x v _ _ hv
      rw [cell_of_block (heap_alloc_new w _)]; exact hv
    obtain ⟨R2, le⟩ := R'.freeze hf (o := 0) (n := c.size) (fun x => c[x]?) hc
    refine ⟨_, be, le, fun _ _ h => h, ?_, R2⟩
    simp only [entrel, vrel]
    refine ⟨_, cap, rfl, hlen, zrel_of fun i a ha => ?_⟩
    obtain ⟨v, h1, h2⟩ := hr i a ha
    have hi : i < c.size := (Array.getElem?_eq_some_iff.1 h1).1
    exact ⟨v, by simp only [Gam.addZ, Nat.zero_add, true_and, Nat.zero_le, hi, if_true]; exact h1, vrel_mono le a v h2⟩
  | false =>
    simp only [newRowA, Bool.false_eq_true, if_false]
    obtain ⟨R2, le⟩ := R'.newHeap (cs := cs) hf (blk_new hr hl)
    refine ⟨_, be, le, fun _ _ h => h, ?_, R2⟩
    simp only [entrel, vrel]
    refine ⟨_, cap, rfl, hlen, .inr (.inr ⟨w.heap.size, 0, c.size, by simp [Gam.setPhi], rfl, by simpa using hcap⟩)⟩

/-- A new variable. -/
theorem newVar_rel (hM : ∀ b, h0.size ≤ b → M b) (R : RW M h0 g be bx S w) {t : TypeId} {cs : List AV} {c : Array Value} (h : lrel g cs c.toList) {heap : Bool} {dst : Option Nat} {β : Type}
    {K : Out → Option β} {r : β} (hk : newVarK heap dst cs bx S K = some r) :
    ∃ out, K out = some r ∧ ∃ g' be', g.le g' ∧ bele be be' ∧ entrel g' be' out.e (.pointer (some ⟨w.heap.size, 0, none⟩)) ∧ RW M h0 g' be' out.bx out.S (w.alloc (.cells c t)) := by
  have R' : RW M h0 g be bx S (w.alloc (.cells c t)) := R.world hM ⟨by rw [World.size_alloc]; omega, rfl, rfl⟩ fun b hb => heap_alloc_old w _ b hb
  have hf := R.free hM (Nat.le_refl w.heap.size)
  obtain ⟨hr, hl⟩ := lrel_arr h
  unfold newVarK at hk
  cases heap with
  | true =>
    simp only [if_true] at hk
    obtain ⟨R2, le⟩ := R'.newHeap (cs := cs) hf (blk_new hr hl)
    refine ⟨_, hk, _, be, le, fun _ _ h => h, ?_, R2⟩
    simp only [entrel, vrel]
    exact ⟨_, rfl, .inr ⟨w.heap.size, 0, c.size, by simp [Gam.setPhi], rfl⟩⟩
  | false =>
    simp only [Bool.false_eq_true, if_false] at hk
    split at hk
    · rename_i d
      split at hk
      · rename_i hd
        obtain ⟨R2, lb⟩ := R'.newBox (cs := cs) hf (blk_new hr hl) hd
        refine ⟨_, hk, g, _, .refl g, lb, ?_, R2⟩
        exact ⟨w.heap.size, by simp, rfl⟩
      · cases hk
    · cases hk
end
end Go.Ab

/- The operations, one by one: what the abstract machine comes to, the model comes to. -/
namespace Go.Ab
section
variable {P : Program} {G : Nat → Option (List AV)} {M : Nat → Prop} {h0 : Base} {g : Gam} {be : Nat → Option Nat} {bx : Bx} {S : Heap} {w : World} {env : List Ent} {act : Act}
variable {β : Type} {r : β}

theorem pureRun_run {α : Type} {P : Program} : ∀ {s : Sem α} {a : α}, pureRun P s = some a → ∀ w, s.run P w = .ok a w := by
  intro s
  induction s with
  | pure a => intro b h w; simp [pureRun] at h; subst h; rfl
  | program k ih => intro b h w; simp only [pureRun] at h; simp only [Sem.run]; exact ih _ h w
  | _ => intro b h; simp [pureRun] at h

-- reads
def Sees (g : Gam) (w : World) (cs : List AV) (b o : Nat) : Prop :=
  ∀ off n, off + n ≤ cs.length → ∃ vs, vs.length = n ∧ lrel g ((cs.drop off).take n) vs ∧ ∀ (j : Nat) v, vs[j]? = some v → w.cell? ⟨b, o + off + j, none⟩ = some v
theorem Sees.blk {cs b o sz} (h : BlkAt g w cs b o sz) : Sees g w cs b o := fun off n hn => cells_at_block h off n hn
theorem Sees.zone (R : RW M h0 g be bx S w) {cs b o} (h : zrel g cs ⟨b, o, none⟩) : Sees g w cs b o := fun off n hn => by
  obtain ⟨vs, h1, h2⟩ := cells_at_zone R h
  have hl := lrel_length h1
  refine ⟨(vs.drop off).take n, by simp; omega, lrel_take n (lrel_drop off h1), fun j v hj => ?_⟩
  rw [List.getElem?_take] at hj
  split at hj
  · rw [List.getElem?_drop] at hj
    have := h2 _ _ hj
    rw [← this]; congr 2; omega
  · cases hj
theorem rdK_some {cs : List AV} {off n : Nat} {ag : Bool} {K : AV → Option β} (h : rdK cs off n ag K = some r) :
    (ag = true ∧ off + n ≤ cs.length ∧ K (.agg ((cs.drop off).take n)) = some r) ∨ (ag = false ∧ ∃ a, cs[off]? = some a ∧ K a = some r) := by
  unfold rdK at h
  cases ag with
  | true => simp only [if_true, gB_some, decide_eq_true_eq] at h; exact .inl ⟨rfl, h.1, h.2⟩
  | false => simp only [Bool.false_eq_true, if_false, bO_some] at h; exact .inr ⟨rfl, h⟩
theorem loadVar_sees {t : TypeId} {ag : Bool} {n : Nat} {cs : List AV} {b o off : Nat} {K : AV → Option β} (ha : tagg P t = some ag) (hn : tsize P t = some n)
    (hs : Sees g w cs b o) (h : rdK cs off n ag K = some r) : ∃ a x, K a = some r ∧ (loadVar t ⟨b, o + off, none⟩).run P w = .ok x w ∧ vrel g a x := by
  rcases rdK_some h with ⟨rfl, hl, hk⟩ | ⟨rfl, a, hc, hk⟩
  · obtain ⟨vs, h1, h2, h3⟩ := hs off n hl
    refine ⟨_, .agg vs.toArray, hk, ?_, by simp only [vrel]; exact ⟨vs, rfl, h2⟩⟩
    simp only [loadVar, Sem.run_bind, run_isAgg' ha, Result.andThen_ok, if_true, run_sizeOf' hn, run_loadCells (P := P) h1 h3, Sem.run_pure]
  · have hlt : off < cs.length := (List.getElem?_eq_some_iff.1 hc).1
    obtain ⟨vs, h1, h2, h3⟩ := hs off 1 (by omega)
    obtain ⟨v, hv, hr⟩ := lrel_get 0 a h2 (by rw [List.getElem?_take, if_pos (by omega), List.getElem?_drop]; simpa using hc)
    have hcell := h3 0 v hv
    simp only [Nat.add_zero] at hcell
    refine ⟨a, v, hk, ?_, hr⟩
    simp only [loadVar, Sem.run_bind, run_isAgg' ha, Result.andThen_ok, Bool.false_eq_true, if_false, run_load, hcell]
theorem seeV_rel (R : RW M h0 g be bx S w) {a : AV} {v : Value} {cs : List AV} {off : Nat} (h : seeV a S = some (cs, off)) (hv : vrel g a v) :
    cs = [] ∨ ∃ b o, v = .pointer (some ⟨b, o + off, none⟩) ∧ Sees g w cs b o := by
  unfold seeV at h
  split at h
  · rename_i id f
    split at h
    · rename_i c hc
      cases h
      simp only [vrel] at hv
      obtain ⟨x, rfl, hd | ⟨b, o, sz, hl, rfl⟩⟩ := hv
      · rw [R.dead _ hd] at hc; cases hc
      · obtain ⟨cs', h1, h2⟩ := R.live _ _ _ _ hl
        rw [hc] at h1; cases h1
        exact .inr ⟨b, o, rfl, .blk h2⟩
    · cases h
  · cases h
    simp only [vrel] at hv
    obtain ⟨x, rfl, hz⟩ := hv
    by_cases hn : cs = []
    · exact .inl hn
    · have := zrel_spot hz hn
      obtain ⟨b, o, sp⟩ := x
      simp only at this; subst this
      exact .inr ⟨b, o, rfl, .zone R hz⟩
  · cases h
theorem rdK_nil {off n : Nat} {ag : Bool} {K : AV → Option β} (h : rdK [] off n ag K = some r) : ag = true ∧ off + n = 0 := by
  rcases rdK_some h with ⟨rfl, hl, _⟩ | ⟨_, a, hc, _⟩
  · exact ⟨rfl, by simpa using hl⟩
  · simp at hc
theorem load_rel (R : RW M h0 g be bx S w) {t : TypeId} {p : Ent} {v : Value} (hp : entrel g be p v) {K : Out → Option β} (h : loadK P t p bx S K = some r) :
    ∃ out x, K out = some r ∧ (Instr.loadAt t v).run P w = .ok x w ∧ entrel g be out.e x ∧ out.bx = bx ∧ out.S = S := by
  unfold loadK at h
  split at h
  · rename_i ag n ha hn
    split at h
    · rename_i s off
      simp only [bO_some] at h
      obtain ⟨cs, hc, h⟩ := h
      obtain ⟨b, sz, hb, hk⟩ := R.box _ _ hc
      obtain ⟨b', hb', rfl⟩ := hp
      rw [hb] at hb'; cases hb'
      obtain ⟨a, x, hk', hrun, hr⟩ := loadVar_sees ha hn (.blk hk) h
      refine ⟨_, x, hk', ?_, hr, rfl, rfl⟩
      simp only [Nat.zero_add] at hrun
      simp only [Instr.loadAt, Instr.sureAddr, Sem.run_bind, Sem.run_pure, Result.andThen_ok, hrun]
    · rename_i a
      simp only [bO_some] at h
      obtain ⟨⟨cs, off⟩, hc, h⟩ := h
      rcases seeV_rel R hc hp with rfl | ⟨b, o, rfl, hs⟩
      · -- nothing to read
        obtain ⟨rfl, h0⟩ := rdK_nil h
        simp only at h0
        have hoff : off = 0 := by omega
        have hn0 : n = 0 := by omega
        subst hoff; subst hn0
        have hptr : ∃ x, v = .pointer (some x) := by
          unfold seeV at hc
          split at hc
          · simp only [entrel, vrel] at hp; obtain ⟨x, e, _⟩ := hp; exact ⟨x, e⟩
          · simp only [entrel, vrel] at hp; obtain ⟨x, e, _⟩ := hp; exact ⟨x, e⟩
          · cases hc
        obtain ⟨x, rfl⟩ := hptr
        simp only [rdK, if_true, gB_some] at h
        refine ⟨_, .agg #[], h.2, ?_, by simp [entrel, vrel, lrel], rfl, rfl⟩
        simp [Instr.loadAt, Instr.sureAddr, loadVar, run_isAgg' ha, run_sizeOf' hn, loadCells, loadCellsFrom]
      · obtain ⟨a', x, hk', hrun, hr⟩ := loadVar_sees ha hn hs h
        refine ⟨_, x, hk', ?_, hr, rfl, rfl⟩
        simp only [Instr.loadAt, Instr.sureAddr, Sem.run_bind, Sem.run_pure, Result.andThen_ok, hrun]
  · cases h

-- writes
theorem storeVar_run {t : TypeId} {n : Nat} {v : Value} {b o sz off : Nat} {cs vs : List AV} (hn : tsize P t = some n) (hk : BlkAt g w cs b o sz) (hl : vs.length = n) (hr : lrel g vs v.cells.toList)
    (hc : vs.all cell = true) (hoff : off + vs.length ≤ cs.length) :
    ∃ w', (storeVar t ⟨b, o + off, none⟩ v).run P w = .ok () w' ∧ (w'.heap.size = w.heap.size ∧ Kin w w') ∧ (∀ b', b' ≠ b → w'.heap[b']? = w.heap[b']?) ∧ BlkAt g w' (setCells cs off vs) b o sz := by
  have hlen := lrel_length hr
  simp at hlen
  obtain ⟨c, e, fz, h1, h2, h3, h4, h5⟩ := id hk
  obtain ⟨w', r1, r2, r3, r4⟩ := run_storeCells (P := P) (b := b) (o := o + off) (e := e) (fz := fz) v.cells.toList 0 w c h1 (by simp; omega) (by rw [h2]; exact h3) (lrel_oneCell hc hr)
  refine ⟨w', ?_, r2, r3, hk.set hoff hr fun c' e' fz' hb => ?_⟩
  · simp only [storeVar, Sem.run_bind, run_sizeOf' hn, Result.andThen_ok]
    rw [if_neg (by omega)]
    exact r1
  · rw [h1] at hb; cases hb; simpa using r4
theorem store_rel (R : RW M h0 g be bx S w) {t : TypeId} {p : Ent} {v x : Value} {a : AV} (hp : entrel g be p v) (ha : vrel g a x) {K : Out → Option β} (h : storeK P t p a bx S K = some r) :
    ∃ out w', K out = some r ∧ (Instr.storeAt t v x).run P w = .ok () w' ∧ out.e = .v (.tup []) ∧ RW M h0 g be out.bx out.S w' := by
  unfold storeK at h
  split at h
  · rename_i ag n hag hn
    obtain ⟨vs, h, hl, hr⟩ := cells_rel h ha
    simp only [gB_some] at h
    obtain ⟨hc, h⟩ := h
    split at h
    · rename_i s off
      simp only [bO_some, gB_some, decide_eq_true_eq] at h
      obtain ⟨cs, hbx, hoff, hk⟩ := h
      obtain ⟨b, sz, hb, hblk⟩ := R.box _ _ hbx
      obtain ⟨b', hb', rfl⟩ := hp
      rw [hb] at hb'; cases hb'
      obtain ⟨w', r1, r2, r3, r4⟩ := storeVar_run hn hblk hl hr hc hoff
      refine ⟨_, w', hk, ?_, rfl, R.writeBox hb r2 r3 r4⟩
      simp only [Nat.zero_add] at r1
      simp only [Instr.storeAt, Instr.sureAddr, Sem.run_bind, Sem.run_pure, Result.andThen_ok, r1]
    · rename_i p
      simp only [bO_some] at h
      obtain ⟨S', hS, hk⟩ := h
      unfold putV at hS
      split at hS
      · rename_i id off
        split at hS
        · rename_i cs hcs
          split at hS
          · rename_i hoff
            cases hS
            simp only [entrel, vrel] at hp
            obtain ⟨y, rfl, hd | ⟨b, o, sz, hlive, rfl⟩⟩ := hp
            · rw [R.dead _ hd] at hcs; cases hcs
            · obtain ⟨cs', h1, h2⟩ := R.live _ _ _ _ hlive
              rw [hcs] at h1; cases h1
              obtain ⟨w', r1, r2, r3, r4⟩ := storeVar_run hn h2 hl hr hc hoff
              refine ⟨_, w', hk, ?_, rfl, R.writeHeap hlive r2 r3 r4⟩
              simp only [Instr.storeAt, Instr.sureAddr, Sem.run_bind, Sem.run_pure, Result.andThen_ok, r1]
          · cases hS
        · cases hS
      · cases hS
  · cases h

-- addresses
theorem addV_rel {a a' : AV} {off : Nat} {v : Value} (hv : vrel g a v) (h : addV a off = some a') :
    ∃ x : Addr, v = .pointer (some x) ∧ vrel g a' (.pointer (some (x.add off))) := by
  unfold addV at h
  split at h
  · rename_i i f
    cases h
    simp only [vrel] at hv ⊢
    obtain ⟨x, rfl, hd | ⟨b, o, sz, hl, rfl⟩⟩ := hv
    · exact ⟨x, rfl, _, rfl, .inl hd⟩
    · exact ⟨_, rfl, _, rfl, .inr ⟨b, o, sz, hl, by simp [Nat.add_assoc]⟩⟩
  · rename_i cs
    cases h
    simp only [vrel] at hv ⊢
    obtain ⟨x, rfl, hz⟩ := hv
    refine ⟨x, rfl, _, rfl, ?_⟩
    by_cases hn : off < cs.length
    · have hs := zrel_spot hz (by intro e; subst e; simp at hn)
      have := zrel_drop off hz hn
      obtain ⟨b, o, s⟩ := x
      simp only at hs; subst hs
      simpa using this
    · rw [List.drop_eq_nil_of_le (by omega)]; simp only [zrel]
  · cases h
theorem addP_rel {p : Ent} {off : Nat} {v : Value} (hv : entrel g be p v) {K : Ent → Option β} (h : addP p off K = some r) :
    ∃ (x : Addr) (e : Ent), v = .pointer (some x) ∧ K e = some r ∧ entrel g be e (.pointer (some (x.add off))) := by
  unfold addP at h
  split at h
  · rename_i s o
    obtain ⟨b, hb, rfl⟩ := hv
    exact ⟨_, _, rfl, h, b, hb, by simp⟩
  · rename_i a
    simp only [bO_some] at h
    obtain ⟨a', ha, hk⟩ := h
    obtain ⟨x, rfl, hr⟩ := addV_rel hv ha
    exact ⟨x, _, rfl, hk, hr⟩

-- parts of a value
theorem part_rel {t : TypeId} {cs : List AV} {vs : List Value} {off : Nat} (hr : lrel g cs vs) {K : AV → Option β} (h : partK P cs t off K = some r) :
    ∃ a x, K a = some r ∧ (part t vs.toArray off).run P w = .ok x w ∧ vrel g a x := by
  unfold partK at h
  split at h
  · rename_i ag n ha hn
    rcases rdK_some h with ⟨rfl, hl, hk⟩ | ⟨rfl, a, hc, hk⟩
    · refine ⟨_, .agg (vs.toArray.extract off (off + n)), hk, ?_, ?_⟩
      · simp [part, run_isAgg' ha, run_sizeOf' hn]
      · simp only [vrel]
        refine ⟨(vs.drop off).take n, ?_, lrel_take n (lrel_drop off hr)⟩
        simp [List.extract_eq_take_drop]
    · obtain ⟨v, hv, hx⟩ := lrel_get _ _ hr hc
      exact ⟨a, v, hk, by simp [part, run_isAgg' ha, hv], hx⟩
  · cases h

-- sums, tests
theorem nilEq_run {t : TypeId} {x y : AV} {u v : Value} {k : Kd} {b : Bool} (hx : vrel g x u) (hy : vrel g y v) (hk : nilKd x = some k) (ht : kdOk P t k = true) (h : nilEq x y = some b) (w : World) :
    (Op.equal t u v).run P w = .ok b w ∧ (∀ a, u ≠ .agg a) ∧ u ≠ .nilIface ∧ (∀ i n, u ≠ .int i n) ∧ (∀ s, u ≠ .string s) ∧ (∀ k n, u ≠ .float k n) ∧ (∀ k n m, u ≠ .complex k n m) := by
  unfold Op.equal Op.maxDepth
  rw [show (10000 : Nat) = 9999 + 1 from rfl, Op.equalIn]
  cases x <;> simp [nilKd] at hk <;> subst hk <;> simp only [kdOk] at ht <;> split at ht <;> (try cases ht) <;> rename_i hu <;> simp only [vrel] at hx <;>
    (try (obtain ⟨_, rfl, hx⟩ := hx)) <;> (try (obtain ⟨_, _, rfl, hx⟩ := hx)) <;> (try subst hx) <;> cases y <;> simp [nilEq] at h <;> subst h <;> simp only [vrel] at hy <;>
    (try (obtain ⟨_, rfl, hy⟩ := hy)) <;> (try (obtain ⟨_, _, rfl, hy⟩ := hy)) <;> (try subst hy) <;> simp [run_underlying hu]
end
end Go.Ab

namespace Go.Ab
section
variable {P : Program} {G : Nat → Option (List AV)} {M : Nat → Prop} {h0 : Base} {g : Gam} {be : Nat → Option Nat} {bx : Bx} {S : Heap} {w : World} {env : List Ent} {act : Act}
variable {β : Type} {r : β}

theorem eqGuard_idle {op : BinOp} {t : TypeId} {x y : Operand} {a b : Value} (h : op ≠ .eql ∧ op ≠ .neq ∨ ((∀ c, a ≠ .agg c) ∧ a ≠ .nilIface)) (w : World) :
    (eqGuard op t x y a b).run P w = .ok () w := by
  unfold eqGuard
  rcases h with ⟨h1, h2⟩ | ⟨h1, h2⟩
  · cases op <;> first | (exact absurd rfl h1) | (exact absurd rfl h2) | simp
  · cases op <;> simp <;> split <;> first | (exact absurd rfl h2) | (exact absurd rfl (h1 _)) | simp

theorem toS_eq {a : AV} {v u : Value} (h : toS a = some v) (hr : vrel g a u) : u = v := by
  cases a <;> simp [toS] at h <;> simp only [vrel] at hr <;> subst h <;> exact hr
theorem toL_eq : ∀ {l : List AV} {vs us : List Value}, toL l = some vs → lrel g l us → us = vs
  | [], vs, us, h, hr => by simp only [toL] at h; simp only [lrel] at hr; cases h; exact hr
  | a :: l, vs, us, h, hr => by
    simp only [toL] at h
    simp only [lrel] at hr
    obtain ⟨v, q, rfl, h1, h2⟩ := hr
    split at h
    · rename_i b hb
      split at h
      · rename_i s hs
        cases h
        rw [toS_eq hb h1, toL_eq hs h2]
      · cases h
    · cases h

theorem aInt_run {op : BinOp} {k : IntKind} {x y : Int} {a : AV} (h : aInt op k x y = some a) (h1 : op ≠ .shl) (h2 : op ≠ .shr) (t : TypeId) (w : World) :
    ∃ v, (binOp op t (.int k x) (.int k y)).run P w = .ok v w ∧ vrel g a v := by
  cases op <;> first | (exact absurd rfl h1) | (exact absurd rfl h2) | skip
  all_goals simp only [aInt] at h
  case quo => split at h <;> cases h; rename_i hy; exact ⟨_, by simp [binOp, Op.intDiv, hy]; rfl, by simp only [vrel]⟩
  case rem => split at h <;> cases h; rename_i hy; exact ⟨_, by simp [binOp, Op.intDiv, hy]; rfl, by simp only [vrel]⟩
  all_goals
    cases h
    refine ⟨_, ?_, rfl⟩
    simp only [binOp, ne_eq, not_true_eq_false, if_false]
    rfl
theorem aShift_run {op : BinOp} {k k' : IntKind} {x y : Int} {a : AV} (h : aShift op k x y = some a) (t : TypeId) (w : World) :
    ∃ v, (binOp op t (.int k x) (.int k' y)).run P w = .ok v w ∧ vrel g a v := by
  unfold aShift at h
  split at h
  · cases h
  · rename_i hy
    split at h <;> cases h
    · exact ⟨_, by simp [binOp, Op.shift, hy]; rfl, by simp only [vrel, shlI]⟩
    · exact ⟨_, by simp [binOp, Op.shift, hy]; rfl, by simp only [vrel, shrI]⟩
theorem aStr_run {op : BinOp} {x y : ByteArray} {a : AV} (h : aStr op x y = some a) (t : TypeId) (w : World) :
    ∃ v, (binOp op t (.string x) (.string y)).run P w = .ok v w ∧ vrel g a v := by
  cases op <;> simp only [aStr] at h
  case add =>
    split at h
    · cases h
    · rename_i hs
      cases h
      refine ⟨.string (x ++ y), ?_, by simp only [vrel]⟩
      simp only [binOp, Op.stringOp]
      rw [if_neg hs]; rfl
  all_goals first | (cases h; done) | (cases h; exact ⟨_, by simp [binOp, Op.stringOp]; rfl, by simp only [vrel, strEq]⟩)

theorem aEql_run {t : TypeId} {x y : AV} {u v : Value} {b : Bool} (hx : vrel g x u) (hy : vrel g y v) (h : aEql P t x y = some b) (op : BinOp) (hop : op = .eql ∨ op = .neq) (o1 o2 : Operand) (w : World) :
    (Op.equal t u v).run P w = .ok b w ∧ (eqGuard op t o1 o2 u v).run P w = .ok () w ∧
      ((∃ a a', u = .bool a ∧ v = .bool a') ∨ (∃ c c', u = .agg c ∧ v = .agg c') ∨ ((∀ i n, u ≠ .int i n) ∧ (∀ s, u ≠ .string s) ∧ (∀ k n, u ≠ .float k n) ∧ (∀ k n m, u ≠ .complex k n m))) := by
  unfold aEql at h
  split at h
  · rename_i a a'
    simp only [vrel] at hx hy
    subst hx; subst hy
    split at h <;> cases h
    rename_i hu
    refine ⟨?_, eqGuard_idle (.inr ⟨fun c => by simp, by simp⟩) w, .inl ⟨a, a', rfl, rfl⟩⟩
    unfold Op.equal Op.maxDepth
    rw [show (10000 : Nat) = 9999 + 1 from rfl, Op.equalIn]
    simp [run_underlying hu]
  · rename_i xs ys
    simp only [vrel] at hx hy
    obtain ⟨us, rfl, hx⟩ := hx
    obtain ⟨vs, rfl, hy⟩ := hy
    unfold aggEq at h
    split at h
    · rename_i a a' ha ha'
      split at h
      · cases h
      · rename_i hg
        rw [toL_eq ha hx, toL_eq ha' hy]
        refine ⟨pureRun_run h w, ?_, .inr (.inl ⟨_, _, rfl, rfl⟩)⟩
        rcases hop with rfl | rfl <;> simp [eqGuard, hg]
    · cases h
  · split at h
    · rename_i k hk
      split at h
      · rename_i ht
        obtain ⟨h1, h2, h3, h4, h5, h6, h7⟩ := nilEq_run hx hy hk ht h w
        exact ⟨h1, eqGuard_idle (.inr ⟨h2, h3⟩) w, .inr (.inr ⟨h4, h5, h6, h7⟩)⟩
      · cases h
    · cases h

theorem binOp_rel {op : BinOp} {t : TypeId} {x y : AV} {u v : Value} {a : AV} (hx : vrel g x u) (hy : vrel g y v) (h : aBin P op t x y = some a) (o1 o2 : Operand) (w : World) :
    ∃ z, (do eqGuard op t o1 o2 u v; binOp op t u v : Sem Value).run P w = .ok z w ∧ vrel g a z := by
  unfold aBin at h
  split at h
  · rename_i k i k' j
    simp only [vrel] at hx hy
    subst hx; subst hy
    have hg : (eqGuard op t o1 o2 (.int k i) (.int k' j)).run P w = .ok () w := eqGuard_idle (.inr ⟨fun c => by simp, by simp⟩) w
    split at h
    · obtain ⟨z, h1, h2⟩ := aShift_run (P := P) (k' := k') h t w
      exact ⟨z, by simp only [Sem.run_bind, hg, Result.andThen_ok, h1], h2⟩
    · obtain ⟨z, h1, h2⟩ := aShift_run (P := P) (k' := k') h t w
      exact ⟨z, by simp only [Sem.run_bind, hg, Result.andThen_ok, h1], h2⟩
    · rename_i hn1 hn2
      split at h
      · rename_i hk
        subst hk
        obtain ⟨z, h1, h2⟩ := aInt_run (P := P) h (fun e => hn1 e) (fun e => hn2 e) t w
        exact ⟨z, by simp only [Sem.run_bind, hg, Result.andThen_ok, h1], h2⟩
      · cases h
  · rename_i i j
    simp only [vrel] at hx hy
    subst hx; subst hy
    have hg : (eqGuard op t o1 o2 (.string i) (.string j)).run P w = .ok () w := eqGuard_idle (.inr ⟨fun c => by simp, by simp⟩) w
    obtain ⟨z, h1, h2⟩ := aStr_run (P := P) h t w
    exact ⟨z, by simp only [Sem.run_bind, hg, Result.andThen_ok, h1], h2⟩
  · split at h
    · cases he : aEql P t x y with
      | none => simp [he] at h
      | some b =>
        simp [he] at h; subst h
        obtain ⟨h1, h2, h3⟩ := aEql_run hx hy he .eql (.inl rfl) o1 o2 w
        refine ⟨.bool b, ?_, by simp only [vrel]⟩
        simp only [Sem.run_bind, h2, Result.andThen_ok]
        have : binOp .eql t u v = (do pure (.bool (← Op.equal t u v)) : Sem Value) := by
          rcases h3 with ⟨_, _, rfl, rfl⟩ | ⟨_, _, rfl, rfl⟩ | ⟨n1, n2, n3, n4⟩
          · rfl
          · rfl
          · cases u <;> first | (exact absurd rfl (n1 _ _)) | (exact absurd rfl (n2 _)) | (exact absurd rfl (n3 _ _)) | (exact absurd rfl (n4 _ _ _)) | rfl
        rw [this]
        simp only [Sem.run_bind, h1, Result.andThen_ok, Sem.run_pure]
    · cases he : aEql P t x y with
      | none => simp [he] at h
      | some b =>
        simp [he] at h; subst h
        obtain ⟨h1, h2, h3⟩ := aEql_run hx hy he .neq (.inr rfl) o1 o2 w
        refine ⟨.bool !b, ?_, by simp only [vrel]⟩
        simp only [Sem.run_bind, h2, Result.andThen_ok]
        have : binOp .neq t u v = (do pure (.bool (!(← Op.equal t u v))) : Sem Value) := by
          rcases h3 with ⟨_, _, rfl, rfl⟩ | ⟨_, _, rfl, rfl⟩ | ⟨n1, n2, n3, n4⟩
          · rfl
          · rfl
          · cases u <;> first | (exact absurd rfl (n1 _ _)) | (exact absurd rfl (n2 _)) | (exact absurd rfl (n3 _ _)) | (exact absurd rfl (n4 _ _ _)) | rfl
        rw [this]
        simp only [Sem.run_bind, h1, Result.andThen_ok, Sem.run_pure]
    · cases h
theorem unOp_rel {op : UnOp} {x : AV} {u : Value} {a : AV} (hx : vrel g x u) (h : aUn op x = some a) (w : World) : ∃ z, (Op.unary op u).run P w = .ok z w ∧ vrel g a z := by
  unfold aUn at h
  split at h
  · simp only [vrel] at hx; subst hx; cases h; exact ⟨_, by simp [Op.unary]; rfl, by simp only [vrel]⟩
  · simp only [vrel] at hx; subst hx; cases h; exact ⟨_, rfl, rfl⟩
  · simp only [vrel] at hx; subst hx
    simp only [aInt] at h; cases h
    exact ⟨_, rfl, rfl⟩
  · cases h

-- struct and array literals
theorem fold_toList (off : Nat) : ∀ (z : List (Value × Nat)) (c : Array Value), (z.foldl (fun cs (p : Value × Nat) => cs.setIfInBounds (off + p.2) p.1) c).toList = z.foldl (fun cs p => cs.set (off + p.2) p.1) c.toList
  | [], c => rfl
  | q :: z, c => by simp only [List.foldl_cons]; rw [fold_toList off z]; simp
theorem fill_rel {pl : Nat → Option (Nat × Nat × Bool)} {pv : Nat → Option (Nat × Nat)} (hpl : ∀ i p, pl i = some p → pv i = some (p.1, p.2.1)) :
    ∀ (l : List (Nat × AV)) (vs : List (Nat × Value)) (cs : List AV) (c : Array Value) {K : List AV → Option β}, fillK pl cs l K = some r → vs.length = l.length →
      (∀ (i : Nat) j a, l[i]? = some (j, a) → ∃ v, vs[i]? = some (j, v) ∧ vrel g a v) → lrel g cs c.toList →
      ∃ cs' c', K cs' = some r ∧ Instr.fill pv c vs = some c' ∧ lrel g cs' c'.toList ∧ cs'.length = cs.length
  | [], vs, cs, c, K, h, hl, _, hr => by
    have : vs = [] := List.eq_nil_of_length_eq_zero hl
    subst this
    exact ⟨cs, c, h, rfl, hr, rfl⟩
  | (i, a) :: l, [], cs, c, K, h, hl, _, hr => by simp at hl
  | (i, a) :: l, (i', v) :: vs, cs, c, K, h, hl, hv, hr => by
    obtain ⟨v', e, hav⟩ := hv 0 i a (by simp)
    simp at e; obtain ⟨rfl, rfl⟩ := e
    simp only [fillK, bO_some] at h
    obtain ⟨⟨off, n, ag⟩, hp, h⟩ := h
    obtain ⟨ws, h, hwl, hwr⟩ := cells_rel h hav
    simp only [gB_some, decide_eq_true_eq] at h
    obtain ⟨hoff, h⟩ := h
    have hcl := lrel_length hr
    have hwl2 := lrel_length hwr
    simp at hcl hwl2
    have hset := lrel_setCells ws v.cells.toList cs c.toList off hr hwr
    have hfold : (v.cells.zipIdx.foldl (fun cs (p : Value × Nat) => cs.setIfInBounds (off + p.2) p.1) c).toList = v.cells.toList.zipIdx.foldl (fun cs p => cs.set (off + p.2) p.1) c.toList := by
      rw [← Array.foldl_toList, Array.toList_zipIdx]
      exact fold_toList off _ c
    obtain ⟨cs', c', h1, h2, h3, h4⟩ := fill_rel hpl l vs (setCells cs off ws) (v.cells.zipIdx.foldl (fun cs (p : Value × Nat) => cs.setIfInBounds (off + p.2) p.1) c) h (by simpa using hl)
      (fun k j b hk => by have := hv (k + 1) j b (by simpa using hk); simpa using this) (by rw [hfold]; exact hset)
    refine ⟨cs', c', h1, ?_, h3, by rw [h4]; simp⟩
    simp only [Instr.fill, hpl _ _ hp]
    simp only at hwl hoff
    rw [if_neg (by simp; omega)]
    exact h2
end
end Go.Ab

namespace Go.Ab
section
variable {P : Program} {G : Nat → Option (List AV)} {M : Nat → Prop} {h0 : Base} {g : Gam} {be : Nat → Option Nat} {bx : Bx} {S : Heap} {w : World} {env : List Ent} {act : Act}
variable {β : Type} {r : β}

theorem tsize_info {t : TypeId} {n : Nat} (h : tsize P t = some n) : ∃ i, P.info? t = some i ∧ i.size = n := by
  unfold tsize at h
  cases hi : P.info? t with
  | none => simp [hi] at h
  | some i => simp [hi] at h; exact ⟨i, rfl, h⟩
theorem info_tsize {t : TypeId} {i : TypeInfo} (h : P.info? t = some i) : tsize P t = some i.size := by simp [tsize, h]
theorem elemOf_some {t e : TypeId} (h : elemOf P t = some e) : P.underlying t = some (.slice e) := by
  unfold elemOf at h
  split at h
  · cases h; assumption
  · cases h
theorem placesL_some : ∀ {fs : List Field} {l : List (Nat × Nat × Bool)}, placesL P fs = some l →
    fs.mapM (fun f => (P.info? f.type).map fun i => (f.offset, i.size)) = some (l.map fun p => (p.1, p.2.1))
  | [], l, h => by simp only [placesL] at h; cases h; rfl
  | f :: fs, l, h => by
    simp only [placesL] at h
    split at h
    · rename_i n ag hn hag
      split at h
      · rename_i q hq
        cases h
        obtain ⟨i, hi, rfl⟩ := tsize_info hn
        simp [List.mapM_cons, hi, placesL_some hq]
      · cases h
    · cases h
theorem build_rel {t : TypeId} {zs : List AV} {pl : Nat → Option (Nat × Nat × Bool)} {l : List (Nat × AV)} {vs : Array (Nat × Value)} (hz : zcells P t = some zs) (hp : placeOf P t = some pl)
    (hl : vs.size = l.length) (hv : ∀ (i : Nat) j a, l[i]? = some (j, a) → ∃ v, vs.toList[i]? = some (j, v) ∧ vrel g a v) {K : List AV → Option β} (h : fillK pl zs l K = some r) (w : World) :
    ∃ cs c, K cs = some r ∧ (Instr.build t vs).run P w = .ok (.agg c) w ∧ lrel g cs c.toList := by
  obtain ⟨i, z, hi, hiz, hzr⟩ := zcells_spec (g := g) hz
  unfold placeOf at hp
  split at hp
  · rename_i fs hu
    split at hp
    · rename_i q hq
      cases hp
      obtain ⟨cs, c, h1, h2, h3, _⟩ := fill_rel (pv := fun i => (q.map fun p => (p.1, p.2.1))[i]?) (fun i p hip => by simp [hip]) l vs.toList zs z.cells h (by simpa using hl) hv hzr
      refine ⟨cs, c, h1, run_build w t vs c ?_, h3⟩
      simp only [Program.built, hi, hu, hiz, placesL_some hq]
      simpa using h2
    · cases hp
  · rename_i n e hu
    split at hp
    · rename_i k ag hk hag
      cases hp
      obtain ⟨j, hj, rfl⟩ := tsize_info hk
      obtain ⟨cs, c, h1, h2, h3, _⟩ := fill_rel (pv := fun i => some (i * j.size, j.size)) (fun i p hip => by cases hip; rfl) l vs.toList zs z.cells h (by simpa using hl) hv hzr
      refine ⟨cs, c, h1, run_build w t vs c ?_, h3⟩
      simp only [Program.built, hi, hu, hiz, hj]
      exact h2
    · cases hp
  · cases hp

theorem repCells_get {zs : List AV} (n i : Nat) (a : AV) (h : (repCells n zs)[i]? = some a) : zs[i % zs.length]? = some a ∧ i < n * zs.length := by
  have key : ∀ (n : Nat) (zs : List AV) (i : Nat), ((List.replicate n zs).flatten)[i]? = some a → zs[i % zs.length]? = some a ∧ i < n * zs.length := by
    intro n zs
    induction n with
    | zero => intro i h; simp at h
    | succ n ih =>
      intro i h
      rw [List.replicate_succ, List.flatten_cons, List.getElem?_append] at h
      split at h
      · rename_i hi
        rw [Nat.mod_eq_of_lt hi]
        exact ⟨h, by rw [Nat.succ_mul]; omega⟩
      · rename_i hi
        obtain ⟨h1, h2⟩ := ih _ h
        rw [Nat.succ_mul]
        refine ⟨?_, by omega⟩
        rw [← h1]
        congr 1
        have : i = (i - zs.length) + zs.length := by omega
        rw [this, Nat.add_mod_right]
        simp
  unfold repCells at h
  split at h
  · rename_i z
    rw [List.getElem?_replicate] at h
    split at h
    · rename_i hi; cases h; simp [Nat.mod_one, hi]
    · cases h
  · exact key n zs i h
theorem repCells_length (n : Nat) (zs : List AV) : (repCells n zs).length = n * zs.length := by
  unfold repCells
  split
  · simp
  · simp [List.length_flatten]
theorem rep_rel {zs : List AV} {z : Array Value} (h : lrel g zs z.toList) (n m : Nat) (hm : n * zs.length ≤ m) :
    ∀ (i : Nat) a, (repCells n zs)[i]? = some a → ∃ v, ((Array.range m).map (z[· % z.size]!))[i]? = some v ∧ vrel g a v := by
  intro i a ha
  obtain ⟨h1, h2⟩ := repCells_get n i a ha
  have hl := lrel_length h
  simp at hl
  obtain ⟨v, hv, hr⟩ := lrel_get _ a h h1
  refine ⟨v, ?_, hr⟩
  rw [← hl] at hv
  have hi : i < m := by omega
  have hv' : z[i % z.size]? = some v := by simpa using hv
  simp only [Array.getElem?_map, Array.getElem?_range, hi, if_true, Option.map_some]
  simp [getElem!_def, hv']
theorem rep_lrel {zs : List AV} {z : Array Value} (h : lrel g zs z.toList) (n : Nat) : lrel g (repCells n zs) ((Array.range (n * zs.length)).map (z[· % z.size]!)).toList := by
  refine lrel_of (by simp [repCells_length]) fun i a ha => ?_
  obtain ⟨v, h1, h2⟩ := rep_rel h n _ (Nat.le_refl _) i a ha
  exact ⟨v, by rw [Array.getElem?_toList]; exact h1, h2⟩

theorem buildSlice_rel (hM : ∀ b, h0.size ≤ b → M b) (R : RW M h0 g be bx S w) {t e : TypeId} {n len : Nat} {ag : Bool} {zs : List AV} {l : List (Nat × AV)} {vs : Array (Nat × Value)} (he : elemOf P t = some e) (hn : tsize P e = some n)
    (hz : zcells P e = some zs) (hlen : len * n ≤ 2 ^ 20) (hzl : zs.length = n) (hl : vs.size = l.length) (hv : ∀ (i : Nat) j a, l[i]? = some (j, a) → ∃ v, vs.toList[i]? = some (j, v) ∧ vrel g a v)
    (fz : Bool) {K : Out → Option β} (h : fillK (fun i => some (i * n, n, ag)) (repCells len zs) l (fun cs => K (newRowA fz len n cs bx S)) = some r) :
    ∃ out x w' g' be', K out = some r ∧ (Instr.buildSlice t len vs).run P w = .ok x w' ∧ g.le g' ∧ bele be be' ∧ entrel g' be' out.e x ∧ RW M h0 g' be' out.bx out.S w' := by
  obtain ⟨i, z, hi, hiz, hzr⟩ := zcells_spec (g := g) hz
  have hin : i.size = n := by obtain ⟨j, hj, hjn⟩ := tsize_info hn; rw [hi] at hj; cases hj; exact hjn
  have hrep := rep_lrel hzr len
  rw [hzl] at hrep
  obtain ⟨cs, c, h1, h2, h3, h4⟩ := fill_rel (pv := fun i => some (i * n, n)) (fun i p hip => by cases hip; rfl) l vs.toList (repCells len zs) ((Array.range (len * n)).map (z.cells[· % z.cells.size]!)) h (by simpa using hl) hv hrep
  obtain ⟨hr, hle⟩ := lrel_arr h3
  have hcl : c.size = len * n := by
    have := lrel_length h3
    simp at this
    rw [this, h4, repCells_length, hzl]
  obtain ⟨g', be', r1, r2, r3, r4⟩ := newRow_rel hM R (t := e) hr hle fz (Nat.le_refl len) (es := n) (by omega)
  refine ⟨_, _, _, g', be', h1, ?_, r1, r2, r3, r4⟩
  have h20 : ¬ len * n > 2 ^ 24 := by
    have : (2 : Nat) ^ 20 ≤ 2 ^ 24 := by decide
    omega
  simp only [Instr.buildSlice, Sem.run_bind, run_underlying (elemOf_some he), Result.andThen_ok, run_sizeOf' hn, if_neg h20]
  by_cases hz0 : len * n = 0
  · have hc0 : ((Array.range (len * n)).map (z.cells[· % z.cells.size]!)) = #[] := by simp [hz0]
    rw [hc0] at h2
    simp [hz0, show Array.range 0 = #[] from rfl, h2, newRow]
  · simp [hz0, run_zeroValue' hi hiz, h2, newRow]

theorem makeSlice_rel (hM : ∀ b, h0.size ≤ b → M b) (R : RW M h0 g be bx S w) {t e : TypeId} {i : TypeInfo} {zs : List AV} {n m : Int} (he : elemOf P t = some e) (hi : P.info? e = some i) (hz : zcells P e = some zs)
    (h0n : 0 ≤ n) (hnm : n ≤ m) (hb : m * i.bytes ≤ 2 ^ 44) (hm : m ≤ 2 ^ 44) (hzl : zs.length = i.size) (fz : Bool) :
    ∃ x w' g' be', (Instr.makeSlice t (.int .i64 n) (.int .i64 m)).run P w = .ok x w' ∧ g.le g' ∧ bele be be' ∧ entrel g' be' (newRowA fz n.toNat i.size (repCells n.toNat zs) bx S).e x ∧
      RW M h0 g' be' (newRowA fz n.toNat i.size (repCells n.toNat zs) bx S).bx (newRowA fz n.toNat i.size (repCells n.toNat zs) bx S).S w' := by
  obtain ⟨i', z, hi', hiz, hzr⟩ := zcells_spec (g := g) hz
  rw [hi] at hi'; cases hi'
  have hzs := lrel_length hzr
  simp at hzs
  have hle : n.toNat * zs.length ≤ m.toNat * i.size := by rw [hzl]; exact Nat.mul_le_mul_right _ (by omega)
  have hrep := rep_rel hzr n.toNat (m.toNat * i.size) hle
  have w1 : IntKind.i64.wrap n = n := by unfold IntKind.wrap IntKind.bits IntKind.signed; simp only [Bool.true_and, decide_eq_true_eq]; split <;> omega
  have w2 : IntKind.i64.wrap m = m := by unfold IntKind.wrap IntKind.bits IntKind.signed; simp only [Bool.true_and, decide_eq_true_eq]; split <;> omega
  obtain ⟨g', be', r1, r2, r3, r4⟩ := newRow_rel hM R (t := e) (cs := repCells n.toNat zs) (c := (Array.range (m.toNat * i.size)).map (z.cells[· % z.cells.size]!)) hrep
    (by rw [repCells_length]; simp; exact hle) fz (len := n.toNat) (cap := m.toNat) (es := i.size) (by omega) (by simp)
  refine ⟨_, _, g', be', ?_, r1, r2, r3, r4⟩
  have c1 : ¬ (i.bytes : Int) * m > 2 ^ 48 := by rw [Int.mul_comm]; omega
  simp only [Instr.makeSlice, Sem.run_bind, run_underlying (elemOf_some he), Result.andThen_ok, Go.asInt, asIntOf, Sem.run_pure, run_typeInfo' hi, w1, w2]
  have hguard : ((decide (m < 0) || decide ((i.bytes : Int) * m > 2 ^ 48)) || decide (n < 0) || decide (n > m)) = false := by
    simp only [Bool.or_eq_false_iff, decide_eq_false_iff_not]; refine ⟨⟨⟨by omega, c1⟩, by omega⟩, by omega⟩
  simp only [hguard, Bool.false_eq_true, if_false, Result.andThen_ok, run_askRoom, run_sizeOf' (info_tsize hi), Sem.run_bind]
  by_cases hz0 : m.toNat * i.size = 0
  · simp [hz0, newRow, show Array.range 0 = #[] from rfl]
  · simp [hz0, run_zeroValue' hi hiz, newRow]
end
end Go.Ab

namespace Go.Ab
section
variable {P : Program} {G : Nat → Option (List AV)} {M : Nat → Prop} {h0 : Base} {g : Gam} {be : Nat → Option Nat} {bx : Bx} {S : Heap} {w : World} {env : List Ent} {act : Act}
variable {β : Type} {r : β}

-- the cells of a slice or a string
theorem rowOf_rel (R : RW M h0 g be bx S w) {es n : Nat} {x : AV} {v : Value} {cs : List AV} (hv : vrel g x v) (h : rowOf es x S = some (n, cs)) :
    ∃ vs : List Value, vs.length = n * es ∧ cs.length = n * es ∧ lrel g cs vs ∧ (∀ w', (Builtin.lenOf v).run P w' = .ok n w') ∧ ∀ m, m ≤ n → (Builtin.firstCells es m v).run P w = .ok (vs.take (m * es)).toArray w := by
  unfold rowOf at h
  split at h
  · cases h
    simp only [vrel] at hv; subst hv
    exact ⟨[], by simp, by simp, by simp [lrel], fun w' => rfl, fun m hm => by simp [Builtin.firstCells]⟩
  · rename_i n' c
    split at h
    · rename_i hl
      cases h
      simp only [vrel] at hv
      obtain ⟨a, cap, rfl, hcap, hz⟩ := hv
      by_cases hn : cs = []
      · subst hn
        refine ⟨[], hl, hl, by simp [lrel], fun w' => rfl, fun m hm => ?_⟩
        have : m * es = 0 := by
          have h1 : m * es ≤ n * es := Nat.mul_le_mul_right _ hm
          have h2 : n * es = 0 := hl.symm
          omega
        simp [Builtin.firstCells, this, loadCells, loadCellsFrom]
      · have hs := zrel_spot hz hn
        obtain ⟨b, o, s⟩ := a
        simp only at hs; subst hs
        obtain ⟨vs, h1, h2⟩ := cells_at_zone R hz
        have hlen := lrel_length h1
        refine ⟨vs, by omega, hl, h1, fun w' => rfl, fun m hm => ?_⟩
        have hle : m * es ≤ n * es := Nat.mul_le_mul_right _ hm
        simp only [Builtin.firstCells]
        refine run_loadCells (by simp; omega) fun j v hj => ?_
        rw [List.getElem?_take] at hj
        split at hj
        · exact h2 j v hj
        · cases hj
    · cases h
  · rename_i id off n' es'
    split at h
    · rename_i c hc
      split at h
      · rename_i hcond
        obtain ⟨rfl, hoff⟩ := hcond
        cases h
        simp only [vrel] at hv
        obtain ⟨a, cap, rfl, hcap, hd | hz0 | ⟨b, o, sz, hl, rfl, hsz⟩⟩ := hv
        · rw [R.dead _ hd] at hc; cases hc
        · have hn0 : n = 0 := by omega
          subst hn0
          refine ⟨[], by simp, by simp, by simp [lrel], fun w' => rfl, fun m hm => ?_⟩
          have : m = 0 := by omega
          subst this
          simp [Builtin.firstCells, loadCells, loadCellsFrom]
        · obtain ⟨c', h1, h2⟩ := R.live _ _ _ _ hl
          rw [hc] at h1; cases h1
          obtain ⟨vs, k1, k2, k3⟩ := cells_at_block h2 off (n * es) hoff
          refine ⟨vs, k1, by simp; omega, k2, fun w' => rfl, fun m hm => ?_⟩
          have hle : m * es ≤ n * es := Nat.mul_le_mul_right _ hm
          simp only [Builtin.firstCells]
          refine run_loadCells (by simp; omega) fun j v hj => ?_
          rw [List.getElem?_take] at hj
          split at hj
          · exact k3 j v hj
          · cases hj
      · cases h
    · cases h
  · rename_i s
    split at h
    · rename_i he
      subst he
      cases h
      simp only [vrel] at hv; subst hv
      refine ⟨s.data.toList.map fun b => .int .u8 b.toNat, by rw [List.length_map, Nat.mul_one]; rfl, by unfold byteCells; rw [List.length_map, Nat.mul_one]; rfl, ?_, fun w' => rfl, fun m hm => ?_⟩
      · unfold byteCells
        generalize s.data.toList = l
        induction l with
        | nil => simp [lrel]
        | cons a l ih => simp only [List.map_cons, lrel]; exact ⟨_, _, rfl, by simp only [vrel], ih⟩
      · simp only [Builtin.firstCells, Sem.run_pure, Nat.mul_one]
        congr 1
        apply Array.ext'
        simp [ByteArray.data_extract]
    · cases h
  · cases h

def b2sBody (c : Value) (s : ByteArray) : Sem (ForInStep ByteArray) := match c with
  | .int .u8 n => pure (ForInStep.yield (s.push (UInt8.ofNat n.toNat)))
  | _ => do
    stuck "bytesToString: byte expected"
    pure (ForInStep.yield s)
theorem bytesOf_rel : ∀ {cs : List AV} {l : List UInt8} {vs : List Value}, bytesOf cs = some l → lrel g cs vs → ∀ (s : ByteArray) (w : World),
    (forIn vs s b2sBody : Sem ByteArray).run P w = .ok ⟨s.data ++ l.toArray⟩ w
  | [], l, vs, h, hr, s, w => by
    simp only [bytesOf] at h; cases h
    simp only [lrel] at hr; subst hr
    simp
  | .int .u8 n :: cs, l, vs, h, hr, s, w => by
    simp only [bytesOf] at h
    split at h
    · rename_i q hq
      cases h
      simp only [lrel] at hr
      obtain ⟨v, us, rfl, hv, hr⟩ := hr
      simp only [vrel] at hv; subst hv
      simp only [List.forIn_cons, b2sBody, Sem.run_bind, Sem.run_pure, Result.andThen_ok]
      rw [bytesOf_rel hq hr]
      simp [ByteArray.push]
    · cases h
theorem b2s_rel (R : RW M h0 g be bx S w) {x : AV} {v : Value} {s : ByteArray} (hv : vrel g x v) (h : aB2S x S = some s) : (Conv.bytesToString v).run P w = .ok (.string s) w := by
  have core : ∀ (a : Addr) (len cap : Nat) (cs : List AV) (vs : List Value) (l : List UInt8), v = .slice (some a) len cap → bytesOf cs = some l → lrel g cs vs → (loadCells a len).run P w = .ok vs.toArray w →
      (Conv.bytesToString v).run P w = .ok (.string ⟨l.toArray⟩) w := by
    intro a len cap cs vs l e hb hr hrun
    subst e
    simp only [Conv.bytesToString, Sem.run_bind, hrun, Result.andThen_ok]
    have := bytesOf_rel (P := P) hb hr ByteArray.empty w
    have he : (forIn vs.toArray ByteArray.empty b2sBody : Sem ByteArray).run P w = .ok ⟨l.toArray⟩ w := by
      rw [List.forIn_toArray, this]
      simp [ByteArray.empty, ByteArray.emptyWithCapacity] <;> rfl
    show (((forIn vs.toArray ByteArray.empty b2sBody : Sem ByteArray).run P w).andThen fun a w' => _) = _
    rw [he]; rfl
  unfold aB2S at h
  split at h
  · cases h
    simp only [vrel] at hv; subst hv
    simp [Conv.bytesToString]
  · rename_i n cs
    split at h
    · rename_i hn
      split at h
      · rename_i l hl
        cases h
        obtain ⟨vs, k1, k2, k3, k4, k5⟩ := rowOf_rel (P := P) R (es := 1) hv (by simp only [rowOf]; rw [if_pos (by omega)])
        simp only [vrel] at hv
        obtain ⟨a, cap, rfl, _, _⟩ := hv
        have := k5 n (Nat.le_refl _)
        simp only [Builtin.firstCells, Nat.mul_one] at this
        exact core a n cap cs vs l rfl hl k3 (by rw [this]; congr 2; rw [List.take_of_length_le (by omega)])
      · cases h
    · cases h
  · rename_i id off n es
    split at h
    · rename_i cs hc
      split at h
      · rename_i hcond
        split at h
        · rename_i l hl
          cases h
          obtain ⟨rfl, hoff⟩ := hcond
          obtain ⟨vs, k1, k2, k3, k4, k5⟩ := rowOf_rel (P := P) R (es := 1) hv (by simp only [rowOf, hc]; rw [if_pos (by simpa using hoff)])
          simp only [vrel] at hv
          obtain ⟨a, cap, rfl, _, _⟩ := hv
          have := k5 n (Nat.le_refl _)
          simp only [Builtin.firstCells, Nat.mul_one] at this
          simp only [Nat.mul_one] at k3 k1
          exact core a n cap _ vs l rfl hl k3 (by rw [this]; congr 2; rw [List.take_of_length_le (by omega)])
        · cases h
      · cases h
    · cases h
  · cases h

-- slices of slices, strings, arrays
def orel (g : Gam) : Option AV → Option Value → Prop
  | none, none => True
  | some a, some v => vrel g a v
  | _, _ => False
theorem nat_bound {lo : Option AV} {d l : Nat} {lv : Option Value} (h : aNat lo d = some l) (hr : orel g lo lv) :
    (lv = none ∧ l = d) ∨ (∃ k, lv = some (.int k l)) := by
  cases lo with
  | none =>
    cases lv with
    | none => simp only [aNat] at h; cases h; exact .inl ⟨rfl, rfl⟩
    | some v => exact hr.elim
  | some a =>
    cases lv with
    | none => exact hr.elim
    | some v =>
      cases a <;> simp only [aNat] at h <;> (try cases h)
      rename_i k n
      split at h
      · rename_i hn
        cases h
        simp only [orel, vrel] at hr; subst hr
        exact .inr ⟨k, by rw [Int.toNat_of_nonneg hn]⟩
      · cases h
theorem bounds_run {isS : Bool} {len cap l h : Nat} {lo hi : Option AV} {lv hv : Option Value} (h1 : aNat lo 0 = some l) (h2 : aNat hi len = some h)
    (r1 : orel g lo lv) (r2 : orel g hi hv) (hle : l ≤ h) (hh : h ≤ cap) (w : World) : (Instr.sliceBounds isS len cap lv hv none).run P w = .ok (l, h, cap) w := by
  have e1 := nat_bound h1 r1
  have e2 := nat_bound h2 r2
  rcases e2 with ⟨rfl, rfl⟩ | ⟨k, rfl⟩ <;> rcases e1 with ⟨rfl, rfl⟩ | ⟨k', rfl⟩
  · simp [Instr.sliceBounds]
  · simp [Instr.sliceBounds, Instr.sliceBound, asIntOf, hle]
  · simp [Instr.sliceBounds, Instr.sliceBound, asIntOf, hh]
  · simp [Instr.sliceBounds, Instr.sliceBound, asIntOf, hh, hle]
theorem slice_rel {t : TypeId} {x a : AV} {v : Value} {lo hi : Option AV} {lv hv : Option Value} (hx : vrel g x v) (r1 : orel g lo lv) (r2 : orel g hi hv)
    (h : aSlice P t x lo hi = some a) (w : World) : ∃ z, (Instr.sliceAt t v lv hv none).run P w = .ok z w ∧ vrel g a z := by
  unfold aSlice at h
  split at h
  · rename_i s hu
    simp only [vrel] at hx; subst hx
    split at h
    · rename_i l h' hl hh
      split at h
      · rename_i hc
        cases h
        have hb := bounds_run (P := P) (isS := false) (cap := s.size) hl hh r1 r2 hc.1 hc.2 w
        exact ⟨.string (s.extract l h'), by simp [Instr.sliceAt, Instr.slice, run_underlying hu, hb], by simp only [vrel]⟩
      · cases h
    · cases h
  · rename_i e id off n es hu
    simp only [vrel] at hx
    obtain ⟨y, cap, rfl, hcap, hx⟩ := hx
    split at h
    · rename_i k l h' hk hl hh
      split at h
      · rename_i hc
        obtain ⟨rfl, hlh, hhn⟩ := hc
        cases h
        have hb := bounds_run (P := P) (isS := true) (cap := cap) hl hh r1 r2 hlh (by omega) w
        refine ⟨.slice (some (if cap = l then y else y.add (l * k))) (h' - l) (cap - l), ?_, ?_⟩
        · simp [Instr.sliceAt, Instr.slice, run_underlying hu, hb, run_sizeOf' hk]
          split <;> rfl
        · simp only [vrel]
          refine ⟨_, _, rfl, by omega, ?_⟩
          rcases hx with hd | hz | ⟨b, o, sz, hlive, rfl, hsz⟩
          · exact .inl hd
          · exact .inr (.inl ⟨by omega, hz.2⟩)
          · by_cases hcl : cap = l
            · exact .inr (.inl ⟨by omega, by rw [hlive]; simp⟩)
            · refine .inr (.inr ⟨b, o, sz, hlive, by rw [if_neg hcl]; simp [Nat.add_assoc], ?_⟩)
              have : l * k + (cap - l) * k = cap * k := by rw [← Nat.add_mul]; congr 1; omega
              omega
      · cases h
    · cases h
  · rename_i e n cs hu
    simp only [vrel] at hx
    obtain ⟨y, cap, rfl, hcap, hx⟩ := hx
    split at h
    · rename_i k l h' hk hl hh
      split at h
      · rename_i hc
        obtain ⟨hlh, hhn, hcl⟩ := hc
        cases h
        have hb := bounds_run (P := P) (isS := true) (cap := cap) hl hh r1 r2 hlh (by omega) w
        refine ⟨.slice (some (if cap = l then y else y.add (l * k))) (h' - l) (cap - l), ?_, ?_⟩
        · simp [Instr.sliceAt, Instr.slice, run_underlying hu, hb, run_sizeOf' hk]
          split <;> rfl
        · simp only [vrel]
          refine ⟨_, _, rfl, by omega, ?_⟩
          by_cases hcut : l * k < cs.length
          · have hz := zrel_take ((h' - l) * k) (zrel_drop (l * k) hx hcut)
            have hs := zrel_spot hx (by intro e; subst e; simp at hcut)
            obtain ⟨b, o, s⟩ := y
            simp only at hs; subst hs
            have hne : cap ≠ l := by
              intro e
              have : l = n := by omega
              subst this; omega
            rw [if_neg hne]
            simpa using hz
          · rw [List.drop_eq_nil_of_le (by omega), List.take_nil]; simp only [zrel]
      · cases h
    · cases h
  · rename_i e hu
    simp only [vrel] at hx; subst hx
    split at h
    · rename_i k hk hl hh
      cases h
      have hb := bounds_run (P := P) (isS := true) (cap := 0) hl hh r1 r2 (Nat.le_refl _) (Nat.le_refl _) w
      exact ⟨.slice none 0 0, by simp [Instr.sliceAt, Instr.slice, run_underlying hu, hb, run_sizeOf' hk], by simp only [vrel]⟩
    · cases h
  · cases h
theorem sliceArr_rel (R : RW M h0 g be bx S w) {t e : TypeId} {n k : Nat} {x a : AV} {v : Value} {lo hi : Option AV} {lv hv : Option Value} (hu : P.underlying t = some (.array n e)) (hk : tsize P e = some k) (hx : vrel g x v)
    (r1 : orel g lo lv) (r2 : orel g hi hv) (h : aSliceArr n k x lo hi S = some a) : ∃ z, (Instr.sliceAt t v lv hv none).run P w = .ok z w ∧ vrel g a z := by
  unfold aSliceArr at h
  split at h
  · rename_i cs off l h' hs hl hh
    split at h
    · rename_i hc
      obtain ⟨hlh, hhn, hlen⟩ := hc
      have hb := bounds_run (P := P) (isS := false) (cap := n) hl hh r1 r2 hlh hhn w
      have hrun : ∀ y : Addr, v = .pointer (some y) → (Instr.sliceAt t v lv hv none).run P w = .ok (.slice (some (if n = l then y else y.add (l * k))) (h' - l) (n - l)) w := by
        intro y e; subst e
        simp [Instr.sliceAt, run_underlying hu, Instr.sureAddr, hb, run_sizeOf' hk]
      split at h
      · rename_i id o
        cases h
        unfold seeV at hs
        simp only at hs
        split at hs
        · rename_i c hc
          cases hs
          simp only [vrel] at hx
          obtain ⟨y, rfl, hd | ⟨b, o', sz, hlive, rfl⟩⟩ := hx
          · rw [R.dead _ hd] at hc; cases hc
          · obtain ⟨cs', h1, h2⟩ := R.live _ _ _ _ hlive
            rw [hc] at h1; cases h1
            obtain ⟨_, _, _, _, _, _, hsz, _⟩ := h2
            refine ⟨_, hrun _ rfl, ?_⟩
            simp only [vrel]
            refine ⟨_, _, rfl, by omega, ?_⟩
            by_cases hcl : n = l
            · exact .inr (.inl ⟨by omega, by rw [hlive]; simp⟩)
            · refine .inr (.inr ⟨b, o', sz, hlive, by rw [if_neg hcl]; simp [Nat.add_assoc], ?_⟩)
              have : l * k + (n - l) * k = n * k := by rw [← Nat.add_mul]; congr 1; omega
              omega
        · cases hs
      · rename_i cs'
        cases h
        simp only [seeV] at hs
        cases hs
        simp only [vrel] at hx
        obtain ⟨y, rfl, hz⟩ := hx
        refine ⟨_, hrun _ rfl, ?_⟩
        simp only [vrel]
        refine ⟨_, _, rfl, by omega, ?_⟩
        by_cases hcut : l * k < cs.length
        · have hz' := zrel_take ((h' - l) * k) (zrel_drop (l * k) hz hcut)
          have hsp := zrel_spot hz (by intro e; subst e; simp at hcut)
          obtain ⟨b, o, s⟩ := y
          simp only at hsp; subst hsp
          by_cases hne : n = l
          · have : h' - l = 0 := by omega
            rw [this]; simp only [Nat.zero_mul, List.take_zero, zrel]
          · rw [if_neg hne]; simpa using hz'
        · rw [List.drop_eq_nil_of_le (by omega), List.take_nil]; simp only [zrel]
      · cases h
    · cases h
  · cases h

-- the address of an element
theorem idx_rel {t e : TypeId} {k : Nat} {x p : AV} {v : Value} {kd : IntKind} {i : Int} (hu : P.underlying t = some (.slice e)) (hk : tsize P e = some k) (hx : vrel g x v) (h : aIdx k x i = some p) (w : World) :
    ∃ z, (Instr.indexAt t v (.int kd i)).run P w = .ok z w ∧ vrel g p z := by
  unfold aIdx at h
  split at h
  · rename_i id off n es
    split at h
    · rename_i hc
      obtain ⟨h1, h2, rfl⟩ := hc
      cases h
      simp only [vrel] at hx
      obtain ⟨y, cap, rfl, hcap, hx⟩ := hx
      refine ⟨.pointer (some (y.add (i.toNat * k))), by simp [Instr.indexAt, asIntOf, run_underlying hu, h1, h2, run_sizeOf' hk], ?_⟩
      simp only [vrel]
      rcases hx with hd | hz | ⟨b, o, sz, hl, rfl, hsz⟩
      · exact ⟨_, rfl, .inl hd⟩
      · omega
      · exact ⟨_, rfl, .inr ⟨b, o, sz, hl, by simp [Nat.add_assoc]⟩⟩
    · cases h
  · rename_i n cs
    split at h
    · rename_i hc
      obtain ⟨h1, h2⟩ := hc
      cases h
      simp only [vrel] at hx
      obtain ⟨y, cap, rfl, hcap, hx⟩ := hx
      refine ⟨.pointer (some (y.add (i.toNat * k))), by simp [Instr.indexAt, asIntOf, run_underlying hu, h1, h2, run_sizeOf' hk], ?_⟩
      simp only [vrel]
      refine ⟨_, rfl, ?_⟩
      by_cases hcut : i.toNat * k < cs.length
      · have hz := zrel_drop (i.toNat * k) hx hcut
        have hsp := zrel_spot hx (by intro e; subst e; simp at hcut)
        obtain ⟨b, o, s⟩ := y
        simp only at hsp; subst hsp
        simpa using hz
      · rw [List.drop_eq_nil_of_le (by omega)]; simp only [zrel]
    · cases h
  · cases h
theorem indexAddr_rel {t : TypeId} {x : Ent} {v u : Value} {ix : AV} (hx : entrel g be x v) (hi : vrel g ix u) {K : Ent → Option β} (h : indexAddrK P t x ix K = some r) (w : World) :
    ∃ p z, K p = some r ∧ (Instr.indexAt t v u).run P w = .ok z w ∧ entrel g be p z := by
  unfold indexAddrK at h
  split at h
  · rename_i n e k i hu
    simp only [vrel] at hi; subst hi
    simp only [bO_some, gB_some, Bool.and_eq_true, decide_eq_true_eq] at h
    obtain ⟨s, hs, ⟨h1, h2⟩, h⟩ := h
    obtain ⟨y, p, rfl, hk, hp⟩ := addP_rel hx h
    exact ⟨p, _, hk, by simp [Instr.indexAt, asIntOf, run_underlying hu, Instr.sureAddr, h1, h2, run_sizeOf' hs], hp⟩
  · rename_i e k i hu
    simp only [vrel] at hi; subst hi
    simp only [bO_some] at h
    obtain ⟨s, hs, h⟩ := h
    split at h
    · rename_i a
      simp only [bO_some] at h
      obtain ⟨p, hp, hk⟩ := h
      obtain ⟨z, h1, h2⟩ := idx_rel (kd := k) hu hs hx hp w
      exact ⟨_, z, hk, h1, h2⟩
    · cases h
  · cases h
theorem index_rel {t : TypeId} {x ix : AV} {v u : Value} (hx : vrel g x v) (hi : vrel g ix u) {K : AV → Option β} (h : indexK P t x ix K = some r) (w : World) :
    ∃ a z, K a = some r ∧ (Instr.index t v u).run P w = .ok z w ∧ vrel g a z := by
  unfold indexK at h
  split at h
  · rename_i n e k i hu
    simp only [vrel] at hi; subst hi
    simp only [asAgg_some, bO_some, gB_some, Bool.and_eq_true, decide_eq_true_eq] at h
    obtain ⟨cs, rfl, s, hs, ⟨h1, h2⟩, h⟩ := h
    simp only [vrel] at hx
    obtain ⟨vs, rfl, hr⟩ := hx
    obtain ⟨a, z, hk, hrun, hz⟩ := part_rel (w := w) hr h
    exact ⟨a, z, hk, by simp [Instr.index, asIntOf, run_underlying hu, h1, h2, run_sizeOf' hs, hrun], hz⟩
  · rename_i k i hu
    simp only [vrel] at hi; subst hi
    simp only [asStr_some, bO_some, gB_some, decide_eq_true_eq] at h
    obtain ⟨s, rfl, h1, b, hb, hk⟩ := h
    simp only [vrel] at hx; subst hx
    exact ⟨_, .int .u8 b.toNat, hk, by simp [Instr.index, asIntOf, run_underlying hu, h1, hb], by simp only [vrel]⟩
  · cases h
theorem field_rel {t : TypeId} {x : AV} {v : Value} {f : Nat} (hx : vrel g x v) {K : AV → Option β} (h : fieldK P t x f K = some r) (w : World) :
    ∃ a z, K a = some r ∧ (Instr.field t v f).run P w = .ok z w ∧ vrel g a z := by
  unfold fieldK at h
  split at h
  · rename_i fs hu
    simp only [asAgg_some, bO_some] at h
    obtain ⟨fd, hf, cs, rfl, h⟩ := h
    simp only [vrel] at hx
    obtain ⟨vs, rfl, hr⟩ := hx
    obtain ⟨a, z, hk, hrun, hz⟩ := part_rel (w := w) hr h
    exact ⟨a, z, hk, by simp [Instr.field, run_underlying hu, hf, Go.asAgg, hrun], hz⟩
  · cases h
theorem len_rel {t ty : TypeId} {x a : AV} {v : Value} {rest : List Value} {ts : Array TypeId} (hx : vrel g x v) (ht : ts[0]? = some t) (h : aLen P t x = some a) (w : World) :
    ∃ z, (Builtin.len_ ts ty (v :: rest).toArray).run P w = .ok z w ∧ vrel g a z := by
  unfold aLen at h
  split at h <;> (try cases h) <;> rename_i hu
  · simp only [vrel] at hx; subst hx; exact ⟨_, by simp only [Builtin.len_, ht, Sem.run_bind, run_underlying hu, Result.andThen_ok, List.getElem?_toArray, List.getElem?_cons_zero]; rfl, rfl⟩
  · exact ⟨_, by simp only [Builtin.len_, ht, Sem.run_bind, run_underlying hu, Result.andThen_ok, List.getElem?_toArray, List.getElem?_cons_zero]; rfl, rfl⟩
  · simp only [vrel] at hx; subst hx; exact ⟨_, by simp only [Builtin.len_, ht, Sem.run_bind, run_underlying hu, Result.andThen_ok, List.getElem?_toArray, List.getElem?_cons_zero]; rfl, rfl⟩
  · simp only [vrel] at hx; obtain ⟨_, _, rfl, _⟩ := hx; exact ⟨_, by simp only [Builtin.len_, ht, Sem.run_bind, run_underlying hu, Result.andThen_ok, List.getElem?_toArray, List.getElem?_cons_zero]; rfl, rfl⟩
  · simp only [vrel] at hx; obtain ⟨_, _, rfl, _⟩ := hx; exact ⟨_, by simp only [Builtin.len_, ht, Sem.run_bind, run_underlying hu, Result.andThen_ok, List.getElem?_toArray, List.getElem?_cons_zero]; rfl, rfl⟩
theorem min_rel : ∀ {l : List AV} {x a : AV} {v : Value} {vs : List Value}, vrel g x v → lrel g l vs → aMin x l = some a → ∀ w, ∃ z, ((vs.foldlM Builtin.min2 v : Sem Value)).run P w = .ok z w ∧ vrel g a z
  | [], x, a, v, vs, hx, hr, h, w => by
    simp only [lrel] at hr; subst hr
    cases x <;> simp only [aMin] at h <;> cases h <;> exact ⟨v, by simp, hx⟩
  | y :: l, x, a, v, vs, hx, hr, h, w => by
    simp only [lrel] at hr
    obtain ⟨u, us, rfl, hy, hr⟩ := hr
    cases x <;> cases y <;> simp only [aMin] at h <;> (try cases h)
    rename_i k i k' j
    simp only [vrel] at hx hy; subst hx; subst hy
    obtain ⟨z, h1, h2⟩ := min_rel (v := .int k (if j < i then j else i)) (by simp only [vrel]) hr h w
    exact ⟨z, by simp [List.foldlM_cons, Builtin.min2, h1], h2⟩
theorem max_rel : ∀ {l : List AV} {x a : AV} {v : Value} {vs : List Value}, vrel g x v → lrel g l vs → aMax x l = some a → ∀ w, ∃ z, ((vs.foldlM Builtin.max2 v : Sem Value)).run P w = .ok z w ∧ vrel g a z
  | [], x, a, v, vs, hx, hr, h, w => by
    simp only [lrel] at hr; subst hr
    cases x <;> simp only [aMax] at h <;> cases h <;> exact ⟨v, by simp, hx⟩
  | y :: l, x, a, v, vs, hx, hr, h, w => by
    simp only [lrel] at hr
    obtain ⟨u, us, rfl, hy, hr⟩ := hr
    cases x <;> cases y <;> simp only [aMax] at h <;> (try cases h)
    rename_i k i k' j
    simp only [vrel] at hx hy; subst hx; subst hy
    obtain ⟨z, h1, h2⟩ := max_rel (v := .int k (if j > i then j else i)) (by simp only [vrel]) hr h w
    exact ⟨z, by simp [List.foldlM_cons, Builtin.max2, h1], h2⟩
end
end Go.Ab

namespace Go.Ab
section
variable {P : Program} {G : Nat → Option (List AV)} {M : Nat → Prop} {h0 : Base} {g : Gam} {be : Nat → Option Nat} {bx : Bx} {S : Heap} {w : World} {env : List Ent} {act : Act}
variable {β : Type} {r : β}

/-- A new row, whatever else the world has drawn or marked. -/
theorem newRow_gen (hM : ∀ b, h0.size ≤ b → M b) (R : RW M h0 g be bx S w) {w' : World} {t : TypeId} {fr : Nat × Nat} {cs : List AV} {c : Array Value} (hs : w.heap.size ≤ w'.heap.size ∧ Kin w w')
    (hold : ∀ b, b < w.heap.size → w'.heap[b]? = w.heap[b]?) (hnew : w'.heap[w.heap.size]? = some (.cells c t fr)) (hfr : ∀ i, i < c.size → ¬ (fr.1 ≤ i ∧ i < fr.2))
    (hr : ∀ (i : Nat) a, cs[i]? = some a → ∃ v, c[i]? = some v ∧ vrel g a v)
    (hl : cs.length ≤ c.size) (fz : Bool) {len cap es : Nat} (hlen : len ≤ cap) (hcap : cap * es ≤ c.size) :
    ∃ g', g.le g' ∧ entrel g' be (newRowA fz len es cs bx S).e (.slice (some ⟨w.heap.size, 0, none⟩) len cap) ∧
      RW M h0 g' be (newRowA fz len es cs bx S).bx (newRowA fz len es cs bx S).S w' := by
  have R' : RW M h0 g be bx S w' := R.world hM hs hold
  have hf := R.free hM (Nat.le_refl w.heap.size)
  cases fz with
  | true =>
    simp only [newRowA, if_true]
    have hc : ∀ x v, 0 ≤ x → x < 0 + c.size → (fun x => c[x]?) x = some v → w'.cell? ⟨w.heap.size, x, none⟩ = some v := by
      intro x v _ _ hv
      rw [cell_of_block hnew]; exact hv
    obtain ⟨R2, le⟩ := R'.freeze hf (o := 0) (n := c.size) (fun x => c[x]?) hc
    refine ⟨_, le, ?_, R2⟩
    simp only [entrel, vrel]
    refine ⟨_, cap, rfl, hlen, zrel_of fun i a ha => ?_⟩
    obtain ⟨v, h1, h2⟩ := hr i a ha
    have hi : i < c.size := (Array.getElem?_eq_some_iff.1 h1).1
    exact ⟨v, by simp only [Gam.addZ, Nat.zero_add, true_and, Nat.zero_le, hi, if_true]; exact h1, vrel_mono le a v h2⟩
  | false =>
    simp only [newRowA, Bool.false_eq_true, if_false]
    have hk : BlkAt g w' cs w.heap.size 0 c.size := ⟨c, t, fr, hnew, rfl, hfr, by simpa using hl, fun i a ha => by simpa using hr i a ha⟩
    obtain ⟨R2, le⟩ := R'.newHeap (cs := cs) hf hk
    refine ⟨_, le, ?_, R2⟩
    simp only [entrel, vrel]
    refine ⟨_, cap, rfl, hlen, .inr (.inr ⟨w.heap.size, 0, c.size, by simp [Gam.setPhi], rfl, by simpa using hcap⟩)⟩

/-- A block that is nobody's is written. -/
theorem RW.writeFree {w' : World} (h : RW M h0 g be bx S w) {b : Nat} (hf : Free M g be b) (hs : w'.heap.size = w.heap.size ∧ Kin w w') (hb : ∀ b', b' ≠ b → w'.heap[b']? = w.heap[b']?) : RW M h0 g be bx S w' :=
  { h with
    zone := fun b' x v hz => by
      have hne : b' ≠ b := fun e => by subst e; rw [hf.z x] at hz; cases hz
      rw [← h.zone _ _ _ hz]; simp only [World.cell?, hb b' hne]
    live := fun id' b' o' sz' e => by
      obtain ⟨cs', h1, h2⟩ := h.live _ _ _ _ e
      exact ⟨cs', h1, h2.mono (.refl g) (hb _ fun hbb => hf.h id' o' sz' (hbb ▸ e))⟩
    box := fun s cs' e => by
      obtain ⟨b', sz', h1, h2⟩ := h.box _ _ e
      exact ⟨b', sz', h1, h2.mono (.refl g) (hb _ fun hbb => hf.s s (hbb ▸ h1))⟩
    frame := fun b' hn => by rw [← h.frame b' hn]; exact hb _ fun e => hn (e ▸ hf.m)
    size := by rw [hs.1]; exact h.size
    os := hs.2.1.trans h.os
    outp := hs.2.2.trans h.outp }

theorem RW.setNone (h : RW M h0 g be bx S w) {id : Nat} (hi : g.phi id = none) : RW M h0 g be bx (S.set id none) w :=
  { h with
    live := fun id' b' o' sz' e => by
      obtain ⟨cs', h1, h2⟩ := h.live _ _ _ _ e
      exact ⟨cs', by simp only [Heap.set]; rw [if_neg (fun hh => by subst hh; rw [hi] at e; cases e)]; exact h1, h2⟩
    dead := fun id' e => by
      simp only [Heap.set]
      split
      · rfl
      · exact h.dead _ e
    fresh := fun id' e => h.fresh _ e }
theorem RW.killAny (h : RW M h0 g be bx S w) (id : Nat) : ∃ g', g.le g' ∧ RW M h0 g' be bx (S.set id none) w := by
  by_cases hi : g.phi id = none
  · exact ⟨g, .refl g, h.setNone hi⟩
  · obtain ⟨R, le⟩ := h.kill id hi
    exact ⟨_, le, R⟩
theorem setVals_get : ∀ (us c : List Value) (p q : Nat), p + us.length ≤ c.length → (setVals c p us)[q]? = if p ≤ q ∧ q < p + us.length then us[q - p]? else c[q]?
  | [], c, p, q, _ => by simp only [setVals]; rw [if_neg (by simp only [List.length_nil]; omega)]
  | u :: us, c, p, q, h => by
    simp only [List.length_cons] at h
    simp only [setVals]
    rw [setVals_get us _ (p + 1) q (by simp; omega)]
    by_cases h1 : q = p
    · subst h1
      rw [if_neg (by omega), if_pos (by simp), List.getElem?_set, if_pos rfl, if_pos (by omega)]
      simp
    · by_cases h2 : p + 1 ≤ q ∧ q < p + 1 + us.length
      · rw [if_pos h2, if_pos (by simp; omega)]
        have : q - p = (q - (p + 1)) + 1 := by omega
        rw [this]; simp
      · rw [if_neg h2, if_neg (by simp; omega), List.getElem?_set, if_neg (fun e => h1 e.symm)]
theorem growBy_le (n : Nat) : ∀ (k c : Nat), 256 ≤ c → c ≤ 2 * n → Builtin.growBy n k c ≤ 2 * n
  | 0, c, _, h => by simpa [Builtin.growBy] using h
  | k + 1, c, h1, h => by
    simp only [Builtin.growBy]
    split
    · exact h
    · exact growBy_le n k _ (by omega) (by omega)
theorem nextslicecap_le {n c : Nat} (h : c < n) : Builtin.nextslicecap n c ≤ 2 * n := by
  unfold Builtin.nextslicecap
  split
  · omega
  · split
    · omega
    · exact growBy_le n 4 c (by omega) (by omega)

theorem append_fits {t u e ty : TypeId} {i : TypeInfo} {sv xv : Value} {base : Option Addr} {len cap n : Nat} {new : Array Value} (he : P.underlying t = some (.slice e)) (hi : P.info? e = some i)
    (hud : (∃ e', P.underlying u = some (.slice e')) ∨ P.underlying u = some .string) (hsv : sv = .slice base len cap) (hlen : ∀ w', (Builtin.lenOf xv).run P w' = .ok n w')
    (hnew : (Builtin.firstCells i.size n xv).run P w = .ok new w) (hroom : len + n ≤ cap) :
    (Builtin.append_ #[t, u] ty #[sv, xv]).run P w = (do (match base with | some a => storeCells (a.add (len * i.size)) new.toList | none => pure ()); pure (.slice base (len + n) cap) : Sem Value).run P w := by
  subst hsv
  rcases hud with ⟨e', hud⟩ | hud <;>
    simp only [Builtin.append_, List.getElem?_toArray, List.getElem?_cons_zero, List.getElem?_cons_succ, Sem.run_bind, run_underlying he, Result.andThen_ok, run_sizeOf' (info_tsize hi), run_underlying hud, Sem.run_pure, Bool.false_eq_true, if_false, hlen,
      Bool.not_false, if_true, hnew, hroom] <;>
    cases base <;> simp
theorem append_grows {t u e ty : TypeId} {i : TypeInfo} {z : Value} {sv xv : Value} {base : Option Addr} {len cap n : Nat} {old new : Array Value} (he : P.underlying t = some (.slice e)) (hi : P.info? e = some i) (hz : i.zero = some z)
    (hud : (∃ e', P.underlying u = some (.slice e')) ∨ P.underlying u = some .string) (hsv : sv = .slice base len cap) (hlen : ∀ w', (Builtin.lenOf xv).run P w' = .ok n w')
    (hnew : (Builtin.firstCells i.size n xv).run P w.drew = .ok new w.drew) (hold : (Builtin.firstCells i.size len sv).run P w.drew = .ok old w.drew) (hroom : ¬ len + n ≤ cap)
    (hb : (len + n) * i.bytes ≤ 2 ^ 44) (hb2 : len + n ≤ 2 ^ 44) :
    ∃ c, len + n ≤ c ∧ (Builtin.append_ #[t, u] ty #[sv, xv]).run P w =
      .ok (.slice (some ⟨w.heap.size, 0, none⟩) (len + n) c) (w.drew.alloc (.cells (old ++ new ++ Builtin.zeroCells z.cells (c - (len + n))) e)) := by
  subst hsv
  refine ⟨(Question.appendCap (len + n) cap e).cut (w.tape w.drawn (.appendCap (len + n) cap e)), by simp [Question.cut], ?_⟩
  have h1 : ¬ (9223372036854775807 < (len : Int) + (n : Int) ∧ i.bytes = 0) := by omega
  have h2 : ¬ 281474976710656 < Builtin.nextslicecap (len + n) cap * i.bytes := by
    have := Nat.mul_le_mul_right i.bytes (nextslicecap_le (n := len + n) (c := cap) (by omega))
    have e2 : 2 * (len + n) * i.bytes = 2 * ((len + n) * i.bytes) := by rw [Nat.mul_assoc]
    omega
  have hmax : IntKind.i64.max = 9223372036854775807 := by decide
  rcases hud with ⟨e', hud⟩ | hud <;>
    simp [Builtin.append_, run_underlying he, run_sizeOf' (info_tsize hi), run_underlying hud, hlen, hroom, run_typeInfo' hi, hmax, h1, h2, Question.forced, hold, hnew, run_zeroValue' hi hz, newRow]

theorem append_core (hM : ∀ b, h0.size ≤ b → M b) (R : RW M h0 g be bx S w) {t u e ty : TypeId} {i : TypeInfo} {z : Value} {s a : AV} {sv xv : Value} {S' : Heap} {n : Nat} {new : List AV} {nv nd : List Value}
    (hzs : z.cells.size = i.size) (hs : vrel g s sv) (n1 : nv.length = n * i.size) (n2 : new.length = n * i.size) (n3 : lrel g new nv) (d1 : nd.length = n * i.size) (d3 : lrel g new nd)
    (fits : ∀ base len cap, sv = .slice base len cap → len + n ≤ cap → (Builtin.append_ #[t, u] ty #[sv, xv]).run P w =
      (do (match base with | some a => storeCells (a.add (len * i.size)) nv.toArray.toList | none => pure ()); pure (.slice base (len + n) cap) : Sem Value).run P w)
    (grows : ∀ (base : Option Addr) (len cap : Nat) (old : Array Value), sv = .slice base len cap → (Builtin.firstCells i.size len sv).run P w.drew = .ok old w.drew → ¬ len + n ≤ cap → (len + n) * i.bytes ≤ 2 ^ 44 → len + n ≤ 2 ^ 44 →
      ∃ c, len + n ≤ c ∧ (Builtin.append_ #[t, u] ty #[sv, xv]).run P w = .ok (.slice (some ⟨w.heap.size, 0, none⟩) (len + n) c) (w.drew.alloc (.cells (old ++ nd.toArray ++ Builtin.zeroCells z.cells (c - (len + n))) e)))
    (h : aAppendN i.size i.bytes s n new S = some (a, S')) :
    ∃ v' w' g', (Builtin.append_ #[t, u] ty #[sv, xv]).run P w = .ok v' w' ∧ g.le g' ∧ vrel g' a v' ∧ RW M h0 g' be bx S' w' := by
  have Rd : RW M h0 g be bx S w.drew := R.world hM ⟨Nat.le_refl _, rfl, rfl⟩ fun _ _ => rfl
  unfold aAppendN at h
  split at h
  · rename_i hn0
    subst hn0
    have hnil : nv = [] := List.eq_nil_of_length_eq_zero (by simpa using n1)
    subst hnil
    split at h <;> cases h
    · simp only [vrel] at hs
      refine ⟨.slice none 0 0, w, g, ?_, .refl g, ?_, R⟩
      · rw [fits _ _ _ hs (by omega)]; simp
      · simp only [vrel]
    · have hs' := hs
      simp only [vrel] at hs
      obtain ⟨y, cap, hsv, hcap, _⟩ := hs
      refine ⟨sv, w, g, ?_, .refl g, hs', R⟩
      rw [fits _ _ _ hsv (by omega)]; simp [storeCells, hsv]
    · have hs' := hs
      simp only [vrel] at hs
      obtain ⟨y, cap, hsv, hcap, _⟩ := hs
      refine ⟨sv, w, g, ?_, .refl g, hs', R⟩
      rw [fits _ _ _ hsv (by omega)]; simp [storeCells, hsv]
  · rename_i hn0
    -- what a grown row gives
    have grown : ∀ (S1 : Heap) (g1 : Gam) (ov : List Value) (oc : List AV) (len cap : Nat) (c : Nat), RW M h0 g1 be bx S1 w.drew → g.le g1 → ov.length = len * i.size → lrel g oc ov → len + n ≤ c →
        ∃ g', g1.le g' ∧ vrel g' (.hs S1.next 0 (len + n) i.size) (.slice (some ⟨w.heap.size, 0, none⟩) (len + n) c) ∧
          RW M h0 g' be bx (S1.alloc (oc ++ new)) (w.drew.alloc (.cells (ov.toArray ++ nd.toArray ++ Builtin.zeroCells z.cells (c - (len + n))) e)) := by
      intro S1 g1 ov oc len cap c R1 le1 ho hor hc
      have hall : lrel g1 (oc ++ new) (ov ++ nd) := lrel_append (lrel_mono le1 _ _ hor) (lrel_mono le1 _ _ d3)
      have hol := lrel_length hor
      have hsize : (ov.toArray ++ nd.toArray ++ Builtin.zeroCells z.cells (c - (len + n))).size = c * i.size := by
        have : (Builtin.zeroCells z.cells (c - (len + n))).size = (c - (len + n)) * i.size := by simp [Builtin.zeroCells, hzs]
        simp only [Array.size_append, List.size_toArray, this, ho, d1, ← Nat.add_mul]
        congr 1; omega
      obtain ⟨g', q1, q3, q4⟩ := newRow_gen hM R1 (w' := w.drew.alloc (.cells (ov.toArray ++ nd.toArray ++ Builtin.zeroCells z.cells (c - (len + n))) e)) (t := e) (fr := (0, 0)) (cs := oc ++ new)
        (c := ov.toArray ++ nd.toArray ++ Builtin.zeroCells z.cells (c - (len + n))) ⟨by rw [World.size_alloc]; omega, rfl, rfl⟩ (fun b hb => heap_alloc_old w.drew _ b hb) (heap_alloc_new w.drew _) (fun j _ hj => by simp at hj)
        (fun j a ha => by
          obtain ⟨v, hv, hr⟩ := lrel_get j a hall ha
          refine ⟨v, ?_, hr⟩
          have hlt : j < (ov ++ nd).length := (List.getElem?_eq_some_iff.1 hv).1
          rw [Array.getElem?_append_left (by simpa using hlt)]
          simpa using hv)
        (by rw [hsize, List.length_append, n2, ← hol, ho, ← Nat.add_mul]; exact Nat.mul_le_mul_right _ hc) false (len := len + n) (cap := c) (es := i.size) hc (by rw [hsize]; exact Nat.le_refl _)
      simp only [newRowA, Bool.false_eq_true, if_false] at q3 q4
      exact ⟨g', q1, q3, q4⟩
    split at h
    · split at h <;> cases h
      rename_i hb
      simp only [vrel] at hs
      obtain ⟨c, hc, hrun⟩ := grows _ _ _ #[] hs (by subst hs; simp [Builtin.firstCells]) (by omega) (by have := hb.1; unfold mostRoom at this; simpa using this) (by have := hb.2; unfold mostRoom at this; simpa using this)
      obtain ⟨g', q1, q2, q3⟩ := grown S g [] [] 0 0 c Rd (.refl g) (by simp) (by simp [lrel]) hc
      simp only [Nat.zero_add, List.nil_append] at q2 q3 hrun hc
      exact ⟨_, _, g', hrun, q1, q2, q3⟩
    · rename_i id off m k
      split at h
      · rename_i cs hcs
        split at h <;> cases h
        rename_i hc
        obtain ⟨rfl, hoff, hb1, hb2, hcell⟩ := hc
        have hs' := hs
        simp only [vrel] at hs
        obtain ⟨y, cap, rfl, hcap, hs⟩ := hs
        have hrow' : rowOf i.size (.hs id off m i.size) S = some (m, (cs.drop off).take (m * i.size)) := by simp only [rowOf, hcs]; rw [if_pos ⟨trivial, hoff⟩]
        by_cases hroom : m + n ≤ cap
        · rcases hs with hd | hz0 | ⟨b, o, sz, hlive, rfl, hsz⟩
          · rw [R.dead _ hd] at hcs; cases hcs
          · omega
          · obtain ⟨cs', l1, l2⟩ := R.live _ _ _ _ hlive
            rw [hcs] at l1; cases l1
            obtain ⟨R1, le1⟩ := R.kill id (by rw [hlive]; simp)
            have hf := R.killFree hlive
            obtain ⟨c, ty', fr, b1, b2, b3, b4, b5⟩ := l2
            have hroom' : (m + n) * i.size ≤ cap * i.size := Nat.mul_le_mul_right _ hroom
            have hmn : (m + n) * i.size = m * i.size + n * i.size := Nat.add_mul _ _ _
            obtain ⟨w', r1, r2, r3, r4⟩ := run_storeCells (P := P) (b := b) (o := o + off + m * i.size) nv 0 w c b1 (by omega) (by rw [b2]; exact b3) (lrel_oneCell hcell n3)
            have R2 := R1.writeFree hf r2 r3
            simp only [Nat.add_zero] at r4
            obtain ⟨R3, le3⟩ := R2.newHeap (cs := (cs.drop off).take (m * i.size) ++ new) (b := b) (o := o + off) (sz := sz) hf ⟨_, _, fr, r4, by simp [b2], b3, by simp only [List.length_append, List.length_take, List.length_drop, n2]; omega, fun j a ha => by
              rw [List.getElem?_append] at ha
              have hcl : c.toList.length = sz := by simpa using b2
              simp only [List.getElem?_toArray]
              rw [setVals_get nv c.toList _ _ (by omega)]
              split at ha
              · rename_i hj
                simp only [List.length_take, List.length_drop] at hj
                rw [if_neg (by omega)]
                rw [List.getElem?_take, if_pos (by omega), List.getElem?_drop] at ha
                obtain ⟨v, hv, hr⟩ := b5 _ _ ha
                exact ⟨v, by rw [Array.getElem?_toList, ← hv]; congr 1; omega, vrel_mono le1 a v hr⟩
              · rename_i hj
                simp only [List.length_take, List.length_drop] at hj ha
                have hj2 : j - min (m * i.size) (cs.length - off) < new.length := (List.getElem?_eq_some_iff.1 ha).1
                rw [if_pos (by omega)]
                obtain ⟨v, hv, hr⟩ := lrel_get _ a n3 ha
                exact ⟨v, by rw [← hv]; congr 1; omega, vrel_mono le1 a v hr⟩⟩
            refine ⟨.slice (some ⟨b, o + off, none⟩) (m + n) cap, w', _, ?_, le1.trans le3, ?_, R3⟩
            · rw [fits _ _ _ rfl hroom]
              simp only [addr_add, Sem.run_bind]
              rw [r1]; simp
            · simp only [vrel]
              exact ⟨_, cap, rfl, hroom, .inr (.inr ⟨b, o + off, sz, by simp [Gam.setPhi, Heap.set], by simp, by omega⟩)⟩
        · obtain ⟨ov, o1, o2, o3, o4, o5⟩ := rowOf_rel (P := P) Rd hs' hrow'
          have hold := o5 m (Nat.le_refl m)
          rw [List.take_of_length_le (by omega)] at hold
          obtain ⟨g1, le1, R1⟩ := Rd.killAny id
          obtain ⟨c, hc, hrun⟩ := grows _ _ _ _ rfl hold hroom (by unfold mostRoom at hb1; exact hb1) (by unfold mostRoom at hb2; exact hb2)
          obtain ⟨g', q1, q2, q3⟩ := grown _ g1 ov _ m cap c R1 le1 o1 o3 hc
          exact ⟨_, _, g', hrun, le1.trans q1, q2, q3⟩
      · cases h
    · cases h

theorem append_rel (hM : ∀ b, h0.size ≤ b → M b) (R : RW M h0 g be bx S w) {t u e ty : TypeId} {i : TypeInfo} {z : Value} {s x a : AV} {sv xv : Value} {S' : Heap} (he : P.underlying t = some (.slice e)) (hi : P.info? e = some i)
    (hud : (∃ e', P.underlying u = some (.slice e')) ∨ P.underlying u = some .string) (hz : i.zero = some z) (hzs : z.cells.size = i.size) (hs : vrel g s sv) (hx : vrel g x xv)
    (h : aAppend i.size i.bytes s x S = some (a, S')) :
    ∃ v' w' g', (Builtin.append_ #[t, u] ty #[sv, xv]).run P w = .ok v' w' ∧ g.le g' ∧ vrel g' a v' ∧ RW M h0 g' be bx S' w' := by
  have Rd : RW M h0 g be bx S w.drew := R.world hM ⟨Nat.le_refl _, rfl, rfl⟩ fun _ _ => rfl
  unfold aAppend at h
  split at h
  · rename_i n new hrow
    obtain ⟨nv, n1, n2, n3, n4, n5⟩ := rowOf_rel (P := P) R hx hrow
    have hnew := n5 n (Nat.le_refl n)
    rw [List.take_of_length_le (by omega)] at hnew
    obtain ⟨nd, d1, d2, d3, d4, d5⟩ := rowOf_rel (P := P) Rd hx hrow
    have hnewd := d5 n (Nat.le_refl n)
    rw [List.take_of_length_le (by omega)] at hnewd
    exact append_core (u := u) (ty := ty) (xv := xv) hM R hzs hs n1 n2 n3 d1 d3 (fun base len cap e1 e2 => by rw [append_fits (ty := ty) he hi hud e1 n4 hnew e2]; cases base <;> rfl)
      (fun base len cap old e1 e2 e3 e4 e5 => append_grows (ty := ty) he hi hz hud e1 d4 hnewd e2 e3 e4 e5) h
  · cases h
theorem zeroCells_size {z : Array Value} {n : Nat} : (Builtin.zeroCells z n).size = n * z.size := by simp [Builtin.zeroCells]
theorem appendZ_rel (hM : ∀ b, h0.size ≤ b → M b) (R : RW M h0 g be bx S w) {t u e ty : TypeId} {i : TypeInfo} {z : Value} {s x a : AV} {zs : List AV} {sv xv : Value} {S' : Heap} {ik : IntKind} (he : P.underlying t = some (.slice e)) (hi : P.info? e = some i)
    (hud : P.underlying u = some (.int ik)) (hz : i.zero = some z) (hzs : z.cells.size = i.size) (hzr : lrel g zs z.cells.toList) (hs : vrel g s sv) (hx : vrel g x xv)
    (h : aAppendZ i.size i.bytes zs s x S = some (a, S')) :
    ∃ v' w' g', (Builtin.append_ #[t, u] ty #[sv, xv]).run P w = .ok v' w' ∧ g.le g' ∧ vrel g' a v' ∧ RW M h0 g' be bx S' w' := by
  unfold aAppendZ at h
  split at h
  · rename_i k0 k
    split at h
    · rename_i hc
      obtain ⟨hk0, hkb, hkm⟩ := hc
      simp only [vrel] at hx
      subst hx
      obtain ⟨m, rfl⟩ := Int.eq_ofNat_of_zero_le hk0
      unfold mostRoom at hkb hkm
      have hkb' : m * i.bytes ≤ 2 ^ 44 := by exact_mod_cast hkb
      have hkm' : m ≤ 2 ^ 44 := by exact_mod_cast hkm
      have hwrap : IntKind.i64.wrap ((m : Int)) = m := by
        rw [IntKind.wrap_i64]; omega
      have hneg : ¬ ((m : Int) < 0) := by omega
      have hbig : ¬ ((m : Int) * (i.bytes : Int) > 2 ^ 48) := by
        have : ((m * i.bytes : Nat) : Int) ≤ 2 ^ 44 := by exact_mod_cast hkb'
        rw [Int.natCast_mul] at this
        omega
      have hbig' : ¬ (281474976710656 < (m : Int) * (i.bytes : Int)) := by omega
      have hlz : zs.length = i.size := by have := lrel_length hzr; simp at this; omega
      have hrep : lrel g (repCells m zs) (Builtin.zeroCells z.cells m).toList := by
        have := rep_lrel hzr m
        unfold Builtin.zeroCells
        rw [hzs, ← hlz]
        rw [← hlz] at hzs
        simpa [hzs] using this
      have hsz : (Builtin.zeroCells z.cells m).toList.length = m * i.size := by simp [Builtin.zeroCells, hzs]
      have happ : ∀ w' : World, (if m * i.size = 0 then (pure #[] : Sem (Array Value)) else do pure (Builtin.zeroCells (← zeroValue e).cells m)).run P w' = .ok (Builtin.zeroCells z.cells m) w' := by
        intro w'
        split
        · rename_i h0
          have : Builtin.zeroCells z.cells m = #[] := by apply Array.eq_empty_of_size_eq_zero; simpa [h0] using hsz
          rw [this]; rfl
        · simp [run_zeroValue' hi hz]
      have hmax : IntKind.i64.max = 9223372036854775807 := by decide
      refine append_core (e := e) (u := u) (ty := ty) (xv := .int k0 m) (nv := (Builtin.zeroCells z.cells m).toList) (nd := (Builtin.zeroCells z.cells m).toList) hM R hzs hs hsz (by rw [repCells_length, hlz]) hrep hsz hrep ?_ ?_ h
      · intro base len cap e1 e2
        subst e1
        have e2 : len + m ≤ cap := by simpa using e2
        have hasI : (asIntOf (Value.int k0 (m : Int))).run P w = .ok (k0, (m : Int)) w := by simp [asIntOf]
        by_cases h0 : m * i.size = 0
        · have hnil : Builtin.zeroCells z.cells m = #[] := by apply Array.eq_empty_of_size_eq_zero; simpa [h0] using hsz
          rw [hnil]
          cases base <;> simp [Builtin.append_, run_underlying he, run_sizeOf' (info_tsize hi), run_underlying hud, run_typeInfo' hi, Go.asInt, hasI, hwrap, hneg, hbig', e2, h0]
        · cases base <;> simp [Builtin.append_, run_underlying he, run_sizeOf' (info_tsize hi), run_underlying hud, run_typeInfo' hi, Go.asInt, hasI, hwrap, hneg, hbig', e2, h0, run_zeroValue' hi hz]
      · intro base len cap old e1 e2 e3 e4 e5
        subst e1
        have h1 : ¬ (9223372036854775807 < (len : Int) + (m : Int)) := by omega
        have h2 : ¬ 281474976710656 < Builtin.nextslicecap (len + m) cap * i.bytes := by
          have := Nat.mul_le_mul_right i.bytes (nextslicecap_le (n := len + m) (c := cap) (by simpa using e3))
          have e2 : 2 * (len + m) * i.bytes = 2 * ((len + m) * i.bytes) := by rw [Nat.mul_assoc]
          have e4 : (len + m) * i.bytes ≤ 2 ^ 44 := by simpa using e4
          omega
        refine ⟨(Question.appendCap (len + m) cap e).cut (w.tape w.drawn (.appendCap (len + m) cap e)), by simp [Question.cut], ?_⟩
        have e3 : ¬ len + m ≤ cap := by simpa using e3
        have hasI : (asIntOf (Value.int k0 (m : Int))).run P w = .ok (k0, (m : Int)) w := by simp [asIntOf]
        by_cases h0 : m * i.size = 0
        · have hnil : Builtin.zeroCells z.cells m = #[] := by apply Array.eq_empty_of_size_eq_zero; simpa [h0] using hsz
          rw [hnil]
          simp [Builtin.append_, run_underlying he, run_sizeOf' (info_tsize hi), run_underlying hud, run_typeInfo' hi, Go.asInt, hasI, hwrap, hneg, hbig', e3, h1, h2, hmax, Question.forced, e2, newRow, h0, run_zeroValue' hi hz]
        · simp [Builtin.append_, run_underlying he, run_sizeOf' (info_tsize hi), run_underlying hud, run_typeInfo' hi, Go.asInt, hasI, hwrap, hneg, hbig', e3, h1, h2, hmax, Question.forced, e2, newRow, h0, run_zeroValue' hi hz]
    · cases h
  · cases h
end
end Go.Ab

namespace Go.Ab
section
variable {P : Program} {G : Nat → Option (List AV)} {M : Nat → Prop} {h0 : Base} {g : Gam} {be : Nat → Option Nat} {bx : Bx} {S : Heap} {w : World} {env : List Ent} {act : Act}
variable {β : Type} {r : β}

theorem set_same {S : Heap} {id : Nat} {cs : List AV} (h : S.blk id = some cs) : S.set id (some cs) = S := by
  unfold Heap.set
  congr 1
  funext j
  split
  · rename_i e; subst e; exact h.symm
  · rfl

theorem copy_rel (R : RW M h0 g be bx S w) {t e ty : TypeId} {es : Nat} {d x a : AV} {dv xv : Value} {S' : Heap} {ts : Array TypeId} {rest : List Value} (ht : ts[0]? = some t) (he : P.underlying t = some (.slice e)) (hes : tsize P e = some es)
    (hd : vrel g d dv) (hx : vrel g x xv) (h : aCopy es d x S = some (a, S')) :
    ∃ v' w', (Builtin.copy_ ts ty (dv :: xv :: rest).toArray).run P w = .ok v' w' ∧ vrel g a v' ∧ RW M h0 g be bx S' w' := by
  unfold aCopy at h
  split at h
  · rename_i id off m k n new hrow
    obtain ⟨nv, n1, n2, n3, n4, n5⟩ := rowOf_rel (P := P) R hx hrow
    have hnew := n5 (Nat.min n m) (Nat.min_le_left n m)
    split at h
    · rename_i cs hcs
      split at h <;> cases h
      rename_i hc
      obtain ⟨rfl, hoff, hcell⟩ := hc
      simp only [vrel] at hd
      obtain ⟨y, cap, rfl, hcap, hd⟩ := hd
      have hmin : min n m * k ≤ m * k := Nat.mul_le_mul_right _ (Nat.min_le_right n m)
      have hmin2 : min n m * k ≤ n * k := Nat.mul_le_mul_right _ (Nat.min_le_left n m)
      have hrun : ∀ w', (storeCells y (nv.take (min n m * k))).run P w = .ok () w' → (Builtin.copy_ ts ty (.slice (some y) m cap :: xv :: rest).toArray).run P w = .ok (goInt (min n m : Nat)) w' := by
        intro w' hs
        have hnew' : (Builtin.firstCells k (min n m) xv).run P w = .ok (nv.take (min n m * k)).toArray w := hnew
        simp [Builtin.copy_, ht, run_underlying he, n4, run_sizeOf' hes, hnew', hs]
      have hlt : lrel g (new.take (min n m * k)) (nv.take (min n m * k)) := lrel_take _ n3
      have hct : (new.take (min n m * k)).all cell = true := by
        rw [List.all_eq_true] at hcell ⊢
        exact fun z hz => hcell z (List.mem_of_mem_take hz)
      rcases hd with hd | hz0 | ⟨b, o, sz, hl, rfl, hsz⟩
      · rw [R.dead _ hd] at hcs; cases hcs
      · have hm0 : m = 0 := by omega
        subst hm0
        refine ⟨_, w, hrun w (by simp [storeCells]), by simp only [vrel, goInt], ?_⟩
        simp only [Nat.min_zero, Nat.zero_mul, List.take_zero, setCells]
        rw [set_same hcs]; exact R
      · obtain ⟨cs', l1, l2⟩ := R.live _ _ _ _ hl
        rw [hcs] at l1; cases l1
        obtain ⟨c, ty', fr, b1, b2, b3, b4, b5⟩ := l2
        have hcap' : m * k ≤ cap * k := Nat.mul_le_mul_right _ hcap
        obtain ⟨w', r1, r2, r3, r4⟩ := run_storeCells (P := P) (b := b) (o := o + off) (nv.take (min n m * k)) 0 w c b1 (by simp; omega) (by rw [b2]; exact b3) (lrel_oneCell hct hlt)
        simp only [Nat.add_zero] at r4
        refine ⟨_, w', hrun w' r1, by simp only [vrel, goInt], R.writeHeap hl r2 r3 ?_⟩
        refine BlkAt.set (w := w) ⟨c, ty', fr, b1, b2, b3, b4, b5⟩ (by simp; omega) hlt fun c' e' fz' hb => ?_
        rw [b1] at hb; cases hb
        exact r4
    · cases h
  · rename_i q hrow
    cases h
    obtain ⟨nv, n1, n2, n3, n4, n5⟩ := rowOf_rel (P := P) R hx hrow
    simp only [vrel] at hd; subst hd
    have h0 := n5 0 (Nat.zero_le _)
    refine ⟨goInt 0, w, ?_, by simp only [vrel, goInt], R⟩
    simp [Builtin.copy_, ht, run_underlying he, n4, run_sizeOf' hes, h0]
  · cases h

theorem byteCells_rel (s : ByteArray) (g : Gam) : lrel g (byteCells s) (s.data.toList.map fun b => Value.int .u8 b.toNat) := by
  unfold byteCells
  generalize s.data.toList = l
  induction l with
  | nil => simp [lrel]
  | cons a l ih => simp only [List.map_cons, lrel]; exact ⟨_, _, rfl, by simp only [vrel], ih⟩
theorem conv_rel (hM : ∀ b, h0.size ≤ b → M b) (R : RW M h0 g be bx S w) {fz : Bool} {src dst : TypeId} {x : AV} {v : Value} (hx : vrel g x v) {K : Out → Option β} (h : convK P fz src dst x bx S K = some r) :
    ∃ out z w' g', K out = some r ∧ (convert src dst v).run P w = .ok z w' ∧ g.le g' ∧ entrel g' be out.e z ∧ RW M h0 g' be out.bx out.S w' := by
  unfold convK at h
  split at h
  · rename_i k0 k hs hd
    simp only [asInt_some] at h
    obtain ⟨n, rfl, hk⟩ := h
    simp only [vrel] at hx; subst hx
    refine ⟨_, .int k (k.wrap n), w, g, hk, ?_, .refl g, by simp only [entrel, vrel], R⟩
    simp [convert, run_underlying hs, run_underlying hd, Conv.intToInt]
  · rename_i hs hd
    simp only [asStr_some] at h
    obtain ⟨s, rfl, hk⟩ := h
    simp only [vrel] at hx; subst hx
    refine ⟨_, .string s, w, g, hk, ?_, .refl g, by simp only [entrel, vrel], R⟩
    simp [convert, run_underlying hs, run_underlying hd]
  · rename_i e hs hd
    split at h
    · rename_i he
      simp only [bO_some] at h
      obtain ⟨s, hb, hk⟩ := h
      have hrun := b2s_rel (P := P) R hx hb
      refine ⟨_, .string s, w, g, hk, ?_, .refl g, by simp only [entrel, vrel], R⟩
      have hshape : ∃ a l c, v = .slice a l c := by
        cases x <;> simp [aB2S] at hb <;> simp only [vrel] at hx
        · exact ⟨_, _, _, hx⟩
        · obtain ⟨a, c, rfl, _⟩ := hx; exact ⟨_, _, _, rfl⟩
        · obtain ⟨a, c, rfl, _⟩ := hx; exact ⟨_, _, _, rfl⟩
      obtain ⟨a, l, c, rfl⟩ := hshape
      cases a <;> simp [convert, run_underlying hs, run_underlying hd, run_underlying he, hrun]
    · cases h
  · rename_i e hs hd
    split at h
    · rename_i he
      simp only [asStr_some, gB_some, decide_eq_true_eq] at h
      obtain ⟨s, rfl, hlen, hk⟩ := h
      simp only [vrel] at hx; subst hx
      have hcut : s.size ≤ (Question.appendCap s.size 0 e).cut (w.tape w.drawn (.appendCap s.size 0 e)) := by simp [Question.cut]
      generalize hcap : (Question.appendCap s.size 0 e).cut (w.tape w.drawn (.appendCap s.size 0 e)) = cap at hcut
      have Rd : RW M h0 g be bx S w.drew := R.world hM ⟨Nat.le_refl _, rfl, rfl⟩ fun _ _ => rfl
      let c : Array Value := (s.data.map fun b => Value.int .u8 b.toNat) ++ Array.replicate (cap - s.size) (.int .u8 0)
      have hcs : c.size = cap := by simp [c]; have : s.data.size = s.size := rfl; omega
      have hget : ∀ (i : Nat) a, (byteCells s)[i]? = some a → ∃ v, c[i]? = some v ∧ vrel g a v := by
        intro i a ha
        obtain ⟨v, hv, hr⟩ := lrel_get i a (byteCells_rel s g) ha
        refine ⟨v, ?_, hr⟩
        have hlt := (List.getElem?_eq_some_iff.1 hv).1
        simp only [c]
        rw [Array.getElem?_append_left (by simpa using hlt)]
        simpa using hv
      let w' : World := (w.drew.alloc (.cells c e)).freeze { block := w.heap.size, off := cap } 1
      have hw' : w'.heap[w.heap.size]? = some (.cells c e (cap, cap + 1)) := by
        simp only [w', World.freeze, if_neg (show ¬ (1 = 0) by omega), Array.getElem?_modify, if_true]
        rw [show w.heap.size = w.drew.heap.size from rfl, heap_alloc_new w.drew]
        simp
      obtain ⟨g', q1, q2, q3⟩ := newRow_gen hM Rd (w' := w') (t := e) (fr := (cap, cap + 1)) (cs := byteCells s) (c := c)
        ⟨by simp only [w', World.freeze, if_neg (show ¬ (1 = 0) by omega), Array.size_modify]; rw [World.size_alloc]; omega, by simp [w', World.freeze]; rfl, by simp [w', World.freeze]; rfl⟩
        (fun b hb => by
          simp only [w', World.freeze, if_neg (show ¬ (1 = 0) by omega), Array.getElem?_modify]
          rw [if_neg (by have : w.drew.heap.size = w.heap.size := rfl; omega)]
          exact heap_alloc_old w.drew _ b hb) hw' (fun i hi => by rw [hcs] at hi; simp only; omega) hget (by rw [hcs]; simp [byteCells]; have : s.data.size = s.size := rfl; omega) fz (len := s.size) (cap := cap) (es := 1) hcut (by omega)
      refine ⟨_, .slice (some ⟨w.heap.size, 0, none⟩) s.size cap, w', g', hk, ?_, q1, q2, q3⟩
      simp only [convert, Sem.run_bind, run_underlying hs, run_underlying hd, Result.andThen_ok, run_underlying he, Conv.stringToBytes, run_choose, Question.forced, Bool.false_eq_true, if_false, hcap, newRow, run_newObj, Sem.run_pure, markStringish, run_shape]
      have hsh : World.shape? { heap := w.heap.push (.cells c e), tape := w.tape, drawn := w.drawn + 1, os := w.os, output := w.output } w.heap.size = some (e, cap) := by
        simp [World.shape?, hcs]
      simp only [c] at hsh
      rw [hsh]
      rfl
    · cases h
  · cases h

/-- Every operation but the calls of functions: what the abstract machine comes to, the model comes to. -/
theorem aop_rel (hM : ∀ b, h0.size ≤ b → M b) (hG : GOk G g) (R : RW M h0 g be bx S w) (he : erel g be env act.tmps) {C : CallF} {an : OAn} {o : Oper} (hnc : ∀ c f, o.op = .call c → c.callee ≠ .value f) (hnd : ∀ c, o.op ≠ .defer c)
    {K : Out → Option β} (h : aopK P G C an o env bx S K = some r) : ∃ out, K out = some r ∧ OpRes P o act w M h0 g be out := by
  have opR : ∀ x, entrel g be (opd G env x) (act.eval x) := fun x => opd_rel hG he x
  have opvR : ∀ {x a}, opv G env x = some a → vrel g a (act.eval x) := fun e => opv_rel hG he e
  have lb : bele be be := fun _ _ h => h
  unfold aopK at h
  split at h <;> rename_i hop
  case h_1 x => exact ⟨_, h, .pure R (by simp [execOp, hop]) (opR x)⟩
  case h_2 x => exact ⟨_, h, .pure R (by simp [execOp, hop]) (opR x)⟩
  case h_3 c a b =>
    simp only [bO_some, asBool_some] at h
    obtain ⟨x, hx, t, rfl, h⟩ := h
    have hc := opvR hx
    simp only [vrel] at hc
    split at h
    · rename_i ht; exact ⟨_, h, .pure R (by simp [execOp, hop, Go.asBool, hc, ht]) (opR a)⟩
    · rename_i ht; exact ⟨_, h, .pure R (by simp [execOp, hop, Go.asBool, hc, ht]) (opR b)⟩
  case h_4 t =>
    simp only [bO_some] at h
    obtain ⟨cs, hz, h⟩ := h
    obtain ⟨i, z, hi, hiz, hzr⟩ := zcells_spec (g := g) hz
    obtain ⟨out, hk, g', be', q1, q2, q3, q4⟩ := newVar_rel hM R (t := t) (c := z.cells) hzr h
    exact ⟨out, hk, _, _, g', be', .inl (by simp [execOp, hop, Instr.alloc, run_zeroValue' hi hiz, newVar, newRow]), q1, q2, q3, q4⟩
  case h_5 t x =>
    simp only [bO_some] at h
    obtain ⟨a, hx, ag, hag, n, hn, h⟩ := h
    obtain ⟨cs, h, _, hcr⟩ := cells_rel h (opvR hx)
    obtain ⟨out, hk, g', be', q1, q2, q3, q4⟩ := newVar_rel hM R (t := t) (c := (act.eval x).cells) hcr h
    exact ⟨out, hk, _, _, g', be', .inl (by simp [execOp, hop, Instr.box, newVar, newRow]), q1, q2, q3, q4⟩
  case h_6 t ps =>
    simp only [bO_some] at h
    obtain ⟨zs, hz, l, hl, pl, hpl, h⟩ := h
    obtain ⟨vs, e1, e2, e3⟩ := aParts_rel hG he hl
    obtain ⟨cs, c, hk, hrun, hr⟩ := build_rel (g := g) (vs := ps.map fun (i, x) => (i, act.eval x)) hz hpl (by rw [← e2, e1]; simp) (fun i j a ha => by
      obtain ⟨v, h1, h2⟩ := e3 i j a ha
      exact ⟨v, by rw [← h1, e1]; simp, h2⟩) h w
    exact ⟨_, hk, .pure R (v := .agg c) (by simp [execOp, hop, hrun]) (by simp only [entrel, vrel]; exact ⟨c.toList, by simp, hr⟩)⟩
  case h_7 t len ps =>
    simp only [bO_some, gB_some, Bool.and_eq_true, decide_eq_true_eq, beq_iff_eq] at h
    obtain ⟨e, hel, n, hn, ag, hag, zs, hz, l, hl, ⟨h20, hzl⟩, h⟩ := h
    obtain ⟨vs, e1, e2, e3⟩ := aParts_rel hG he hl
    obtain ⟨out, x, w', g', be', hk, hrun, q1, q2, q3, q4⟩ := buildSlice_rel hM R (vs := ps.map fun (i, x) => (i, act.eval x)) hel hn hz h20 hzl (by rw [← e2, e1]; simp) (fun i j a ha => by
      obtain ⟨v, h1, h2⟩ := e3 i j a ha
      exact ⟨v, by rw [← h1, e1]; simp, h2⟩) an.isFrz h
    exact ⟨out, hk, x, w', g', be', .inl (by simp [execOp, hop, hrun]), q1, q2, q3, q4⟩
  case h_8 t a =>
    obtain ⟨out, x, hk, hrun, hx, hb, hS⟩ := load_rel R (opR a) h
    exact ⟨out, hk, x, w, g, be, .inl (by simp [execOp, hop, hrun]), .refl g, lb, hx, by rw [hb, hS]; exact R⟩
  case h_9 t a x =>
    simp only [bO_some] at h
    obtain ⟨v, hv, h⟩ := h
    obtain ⟨out, w', hk, hrun, hx, hR⟩ := store_rel R (opR a) (opvR hv) h
    exact ⟨out, hk, undef, w', g, be, .inr ⟨by simp [execOp, hop, hrun], rfl⟩, .refl g, lb, by rw [hx]; simp only [entrel, vrel]; exact ⟨[], rfl, by simp [lrel]⟩, hR⟩
  case h_10 x =>
    have hx := opR x
    split at h
    · rename_i s f hs
      rw [hs] at hx
      obtain ⟨b, hb, hv⟩ := hx
      exact ⟨_, h, .pure R (v := act.eval x) (by simp [execOp, hop, hv]) ⟨b, hb, hv⟩⟩
    · rename_i a ha
      rw [ha] at hx
      simp only [bO_some] at h
      obtain ⟨p, hp, hk⟩ := h
      obtain ⟨y, hy, _⟩ := addV_rel hx hp
      exact ⟨_, hk, .pure R (v := act.eval x) (by simp [execOp, hop, hy]) hx⟩
  case h_11 op t x y t2 =>
    simp only [bO_some] at h
    obtain ⟨a, ha, b, hb, z, hz, hk⟩ := h
    obtain ⟨v, hrun, hv⟩ := binOp_rel (opvR ha) (opvR hb) hz x y w
    exact ⟨_, hk, .pure R (v := v) (by simp only [execOp, hop]; simp only [Sem.run_bind] at hrun ⊢; rw [hrun]; rfl) hv⟩
  case h_12 op t x =>
    simp only [bO_some] at h
    obtain ⟨a, ha, z, hz, hk⟩ := h
    obtain ⟨v, hrun, hv⟩ := unOp_rel (P := P) (opvR ha) hz w
    exact ⟨_, hk, .pure R (v := v) (by simp [execOp, hop, hrun]) hv⟩
  case h_13 s d x =>
    simp only [bO_some] at h
    obtain ⟨a, ha, h⟩ := h
    obtain ⟨out, z, w', g', hk, hrun, q1, q2, q3⟩ := conv_rel hM R (opvR ha) h
    exact ⟨out, hk, z, w', g', be, .inl (by simp [execOp, hop, hrun]), q1, lb, q2, q3⟩
  case h_14 f first cap =>
    simp only [bO_some] at h
    obtain ⟨a, ha, b, hb, hk⟩ := h
    exact ⟨_, hk, .pure R (v := .func (.func f) (first.map act.eval) (cap.map act.eval)) (by simp [execOp, hop, Instr.makeFunc]) (by
      simp only [entrel, vrel]
      exact ⟨first.toList.map act.eval, cap.toList.map act.eval, by congr 1 <;> apply Array.ext' <;> simp, opvs_rel hG he ha, opvs_rel hG he hb⟩)⟩
  case h_15 t l c =>
    simp only [bO_some, asInt_some, gB_some, Bool.and_eq_true, decide_eq_true_eq, beq_iff_eq] at h
    obtain ⟨e, hel, i, hi, zs, hz, x, hx, y, hy, n, rfl, m, rfl, ⟨⟨⟨⟨c1, c2⟩, c3⟩, c4⟩, c5⟩, hk⟩ := h
    have hx' := opvR hx
    have hy' := opvR hy
    simp only [vrel] at hx' hy'
    obtain ⟨x, w', g', be', hrun, q1, q2, q3, q4⟩ := makeSlice_rel hM R hel hi hz c1 c2 c3 c4 c5 an.isFrz
    exact ⟨_, hk, x, w', g', be', .inl (by simp [execOp, hop, hx', hy', hrun]), q1, q2, q3, q4⟩
  case h_16 t x lo hi =>
    simp only [bO_some] at h
    obtain ⟨l, hl, hv, hhv, a, ha, h⟩ := h
    have orl : ∀ {o : Option Operand} {q}, opvO G env o = some q → orel g q (o.map act.eval) := by
      intro o q hq
      cases o with
      | none => simp only [opvO] at hq; cases hq; trivial
      | some o =>
        simp only [opvO] at hq
        split at hq
        · rename_i a ha; cases hq; exact opvR ha
        · cases hq
    split at h
    · rename_i n e hu
      simp only [bO_some] at h
      obtain ⟨k, hk', z, hz, hk⟩ := h
      obtain ⟨v, hrun, hv⟩ := sliceArr_rel R hu hk' (opvR ha) (orl hl) (orl hhv) hz
      exact ⟨_, hk, .pure R (v := v) (by simp [execOp, hop, hrun]) hv⟩
    · simp only [bO_some] at h
      obtain ⟨z, hz, hk⟩ := h
      obtain ⟨v, hrun, hv⟩ := slice_rel (opvR ha) (orl hl) (orl hhv) hz w
      exact ⟨_, hk, .pure R (v := v) (by simp [execOp, hop, hrun]) hv⟩
  case h_17 s x f =>
    split at h
    · rename_i fs hu
      simp only [bO_some, gB_some, decide_eq_true_eq] at h
      obtain ⟨fd, hf, n, hn, hpos, h⟩ := h
      obtain ⟨y, p, hy, hk, hp⟩ := addP_rel (opR x) h
      exact ⟨_, hk, .pure R (v := .pointer (some (y.add fd.offset))) (by
        simp [execOp, hop, Instr.fieldAt, run_underlying hu, hf, hy, Instr.sureAddr, fieldPlace, run_sizeOf' hn, show n ≠ 0 by omega]) hp⟩
    · cases h
  case h_18 t x f =>
    simp only [bO_some] at h
    obtain ⟨a, ha, h⟩ := h
    obtain ⟨z, v, hk, hrun, hv⟩ := field_rel (opvR ha) h w
    exact ⟨_, hk, .pure R (v := v) (by simp [execOp, hop, hrun]) hv⟩
  case h_19 t x i =>
    simp only [bO_some] at h
    obtain ⟨a, ha, h⟩ := h
    obtain ⟨p, v, hk, hrun, hv⟩ := indexAddr_rel (opR x) (opvR ha) h w
    exact ⟨_, hk, .pure R (v := v) (by simp [execOp, hop, hrun]) hv⟩
  case h_20 t x i =>
    simp only [bO_some] at h
    obtain ⟨a, ha, b, hb, h⟩ := h
    obtain ⟨p, v, hk, hrun, hv⟩ := index_rel (opvR ha) (opvR hb) h w
    exact ⟨_, hk, .pure R (v := v) (by simp [execOp, hop, hrun]) hv⟩
  case h_21 t i =>
    simp only [bO_some, asTup_some] at h
    obtain ⟨a, ha, vs, rfl, z, hz, hk⟩ := h
    have hv := opvR ha
    simp only [vrel] at hv
    obtain ⟨us, hu, hr⟩ := hv
    obtain ⟨v, h1, h2⟩ := lrel_get _ _ hr hz
    exact ⟨_, hk, .pure R (v := v) (by simp [execOp, hop, hu, Instr.extract, h1]) h2⟩
  case h_22 c =>
    split at h <;> rename_i hcal
    · simp only [bO_some, asCons_some] at h
      obtain ⟨l, hl, a, l', rfl, t, ht, z, hz, hk⟩ := h
      have hr := opvs_rel hG he hl
      simp only [lrel] at hr
      obtain ⟨v, us, hvs, hv, _⟩ := hr
      obtain ⟨u, hrun, hu⟩ := len_rel (ty := o.type) (rest := us) hv ht hz w
      have hargs : c.args.map act.eval = (v :: us).toArray := by apply Array.ext'; simpa using hvs
      exact ⟨_, hk, .pure R (v := u) (by simp [execOp, hop, resolve, hcal, hargs, invoke, builtin, hrun]) hu⟩
    · simp only [bO_some, asCons_some, gB_some, beq_iff_eq] at h
      obtain ⟨l, hl, s, l', rfl, x, l'', rfl, t, ht, e, hel, i, hi, u, hu, zs, hz, hzl, ⟨a, S'⟩, hap, hk⟩ := h
      have hr := opvs_rel hG he hl
      simp only [lrel] at hr
      obtain ⟨sv, us, hvs, hsv, xv, us', rfl, hxv, _⟩ := hr
      have hargs : c.args.map act.eval = (sv :: xv :: us').toArray := by apply Array.ext'; simpa using hvs
      obtain ⟨i', z, hi', hiz, hzr⟩ := zcells_spec (g := g) hz
      rw [hi] at hi'; cases hi'
      have hel' : P.underlying t = some (.slice e) := elemOf_some hel
      have hzc : z.cells.size = i.size := by have := lrel_length hzr; simp at this; omega
      have key : ∃ v' w' g', (Builtin.append_ #[t, u] o.type #[sv, xv]).run P w = .ok v' w' ∧ g.le g' ∧ vrel g' a v' ∧ RW M h0 g' be bx S' w' := by
        split at hap
        · rename_i e' h'; exact append_rel (ty := o.type) hM R hel' hi (.inl ⟨e', h'⟩) hiz hzc hsv hxv hap
        · rename_i h'; exact append_rel (ty := o.type) hM R hel' hi (.inr h') hiz hzc hsv hxv hap
        · rename_i ik h'; exact appendZ_rel (ty := o.type) hM R hel' hi h' hiz hzc hzr hsv hxv hap
        · cases hap
      obtain ⟨v', w', g', q1, q2, q3, q4⟩ := key
      refine ⟨_, hk, v', w', g', be, .inl ?_, q2, lb, q3, q4⟩
      have h2 : Builtin.append_ c.argTypes o.type (sv :: xv :: us').toArray = Builtin.append_ #[t, u] o.type #[sv, xv] := by
        unfold Builtin.append_; simp [ht, hu]
      simp [execOp, hop, resolve, hcal, hargs, invoke, builtin, h2, q1]
    · simp only [bO_some, asCons_some] at h
      obtain ⟨l, hl, s, l', rfl, x, l'', rfl, t, ht, e, hel, n, hn, ⟨a, S'⟩, hcp, hk⟩ := h
      have hr := opvs_rel hG he hl
      simp only [lrel] at hr
      obtain ⟨sv, us, hvs, hsv, xv, us', rfl, hxv, _⟩ := hr
      have hargs : c.args.map act.eval = (sv :: xv :: us').toArray := by apply Array.ext'; simpa using hvs
      obtain ⟨v', w', q1, q2, q3⟩ := copy_rel (ty := o.type) (rest := us') R ht (elemOf_some hel) hn hsv hxv hcp
      exact ⟨_, hk, v', w', g, be, .inl (by simp [execOp, hop, resolve, hcal, hargs, invoke, builtin, q1]), .refl g, lb, q2, q3⟩
    · simp only [bO_some, asCons_some] at h
      obtain ⟨l, hl, s, l', rfl, a, ha, hk⟩ := h
      have hr := opvs_rel hG he hl
      simp only [lrel] at hr
      obtain ⟨sv, us, hvs, hsv, hus⟩ := hr
      have hargs : c.args.map act.eval = (sv :: us).toArray := by apply Array.ext'; simpa using hvs
      obtain ⟨z, q1, q2⟩ := min_rel (P := P) hsv hus ha w
      exact ⟨_, hk, .pure R (v := z) (by simp [execOp, hop, resolve, hcal, hargs, invoke, builtin, Builtin.min_, q1]) q2⟩
    · simp only [bO_some, asCons_some] at h
      obtain ⟨l, hl, s, l', rfl, a, ha, hk⟩ := h
      have hr := opvs_rel hG he hl
      simp only [lrel] at hr
      obtain ⟨sv, us, hvs, hsv, hus⟩ := hr
      have hargs : c.args.map act.eval = (sv :: us).toArray := by apply Array.ext'; simpa using hvs
      obtain ⟨z, q1, q2⟩ := max_rel (P := P) hsv hus ha w
      exact ⟨_, hk, .pure R (v := z) (by simp [execOp, hop, resolve, hcal, hargs, invoke, builtin, Builtin.max_, q1]) q2⟩
    · rename_i f; exact absurd hcal (hnc c f hop)
    · cases h
  case h_23 c => exact absurd hop (hnd c)
  case h_24 => cases h
end
end Go.Ab
