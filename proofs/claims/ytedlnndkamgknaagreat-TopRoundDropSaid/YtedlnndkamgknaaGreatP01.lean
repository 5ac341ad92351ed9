/- Part 1: own lemmas, and the conditions of the functions. -/
import Derived.WalkKit
import Derived.Orders
import Derived.RangeFuncNested
import Derived.OrdersIn
section
/- The words of a generator of conditions: symbolic values, symbolic states, and what each operation does to them. -/
namespace Go.Vc
open Go.RowKit

inductive Cmp where
  | eq | ne | lt | le | gt | ge

def Cmp.b : Cmp → Int → Int → Bool
  | .eq, a, b => a == b
  | .ne, a, b => a != b
  | .lt, a, b => decide (a < b)
  | .le, a, b => decide (a ≤ b)
  | .gt, a, b => decide (b < a)
  | .ge, a, b => decide (b ≤ a)
def Cmp.p : Cmp → Int → Int → Prop
  | .eq, a, b => a = b
  | .ne, a, b => a ≠ b
  | .lt, a, b => a < b
  | .le, a, b => a ≤ b
  | .gt, a, b => b < a
  | .ge, a, b => b ≤ a
def Cmp.no : Cmp → Cmp
  | .eq => .ne
  | .ne => .eq
  | .lt => .ge
  | .le => .gt
  | .gt => .le
  | .ge => .lt

/-- Is it the value of one cell? -/
def isOne : Value → Bool
  | .agg _ => false
  | .tuple _ => false
  | _ => true

/-- What one cell holds. -/
inductive Lf where
  | int (k : IntKind) (n : Int)
  | cmp (c : Cmp) (a b : Int)
  | bool (b : Bool)
  | tf (b : Bool)
  | str (s : ByteArray)
  | val (v : Value)
  | vk (v : Value) (h : isOne v = true)
  | ptr (b o : Nat)
  | op (a : Option Addr)
  | loc (key o : Nat)
  | lsl (key o n c : Nat)
  | sl (a : Option Addr) (n c : Nat)
  | map (r : Nat)
  | fn (f : FuncId) (first cap : List Value) (keys : List Nat)
  | fv (f : FuncId) (first cap : List Value)

/-- A value without parts that are tuples: one cell, or a struct's or an array's cells. -/
inductive PV where
  | one (l : Lf)
  | agg (cs : List Lf)

/-- What a slot holds: nothing known; 'undef'; a value; a tuple. -/
inductive SV where
  | none
  | undef
  | pv (p : PV)
  | tup (vs : List PV)

structure LocE where
  b : Nat
  T : TypeId
  cells : List Lf

structure SS where
  sl : Nat → SV
  L : Nat → Option LocE
  ro : Nat → Bool
  ws : Option World
  xs : List (Nat × World × World)
  rf : Bool
  rnd : Option Nat
  gh : Nat → Prop
  pg : Nat → Prop
  pw : World

def Lf.toV (L : Nat → Option LocE) : Lf → Option Value
  | .int k n => some (.int k n)
  | .cmp c a b => some (.bool (c.b a b))
  | .bool b => some (.bool b)
  | .tf b => some (.bool b)
  | .str s => some (.string s)
  | .val v => some v
  | .vk v _ => some v
  | .ptr b o => some (.pointer (some ⟨b, o, none⟩))
  | .op a => some (.pointer a)
  | .loc k o => match L k with
    | some e => some (.pointer (some ⟨e.b, o, Option.none⟩))
    | none => none
  | .lsl k o n c => match L k with
    | some e => some (.slice (some ⟨e.b, o, Option.none⟩) n c)
    | none => none
  | .sl a n c => some (.slice a n c)
  | .map r => some (.map (some r))
  | .fn f first cap _ => some (.func (.func f) first.toArray cap.toArray)
  | .fv f first cap => some (.func (.func f) first.toArray cap.toArray)

def toVs (L : Nat → Option LocE) : List Lf → Option (List Value)
  | [] => some []
  | l :: ls => match l.toV L, toVs L ls with
    | some v, some vs => some (v :: vs)
    | _, _ => none

def PV.toV (L : Nat → Option LocE) : PV → Option Value
  | .one l => l.toV L
  | .agg cs => match toVs L cs with
    | some vs => some (.agg vs.toArray)
    | none => none

def pvs (L : Nat → Option LocE) : List PV → Option (List Value)
  | [] => some []
  | l :: ls => match l.toV L, pvs L ls with
    | some v, some vs => some (v :: vs)
    | _, _ => none

def SV.toV (L : Nat → Option LocE) : SV → Option Value
  | .none => Option.none
  | .undef => some Go.undef
  | .pv p => p.toV L
  | .tup vs => match pvs L vs with
    | some vs => some (.tuple vs.toArray)
    | Option.none => Option.none

def ofCell : Value → Lf
  | .int k n => .int k n
  | .bool b => .tf b
  | .string s => .str s
  | .slice a n c => .sl a n c
  | .func (.func f) a b => .fn f a.toList b.toList []
  | .pointer none => .op none
  | .map none => .vk (.map none) rfl
  | .chan none => .vk (.chan none) rfl
  | .nilFunc => .vk .nilFunc rfl
  | .nilIface => .vk .nilIface rfl
  | v => .val v

def ofConst : Value → SV
  | .agg cs => .pv (.agg (cs.toList.map ofCell))
  | .tuple _ => .none
  | v => .pv (.one (ofCell v))

def SS.ev (s : SS) : Operand → SV
  | .tmp t => s.sl t
  | .const v => ofConst v
  | .global g => .pv (.one (.ptr g 0))
  | .func f => .pv (.one (.fn f [] [] []))

def upd {α : Type} (f : Nat → α) (d : Nat) (v : α) : Nat → α := fun n => bif Nat.beq n d then v else f n

structure Cfg where
  P : Program
  n : Nat
  base : Nat
  w0 : World
  pure : Bool
  wrapAt : List Nat
  muts : List Nat
  esc : List Nat
  joins : List (Nat × List (Nat × TypeId)) := []

def memB (d : Nat) : List Nat → Bool
  | [] => false
  | x :: xs => bif Nat.beq d x then true else memB d xs

def SS.put (s : SS) (dst : Option Tmp) (v : SV) : SS :=
  match dst with
  | some d => { s with sl := upd s.sl d v }
  | none => s

/-- The blocks of the call's own variables. -/
def locsFrom (L : Nat → Option LocE) : Nat → List Nat
  | 0 => []
  | n + 1 => match L n with
    | some e => e.b :: locsFrom L n
    | none => locsFrom L n

def rng : IntKind → Int → Prop
  | .i64, n => -9223372036854775808 ≤ n ∧ n ≤ 9223372036854775807
  | .u64, n => 0 ≤ n ∧ n ≤ 18446744073709551615
  | .i32, n => -2147483648 ≤ n ∧ n ≤ 2147483647
  | .u32, n => 0 ≤ n ∧ n ≤ 4294967295
  | .i16, n => -32768 ≤ n ∧ n ≤ 32767
  | .u16, n => 0 ≤ n ∧ n ≤ 65535
  | .i8, n => -128 ≤ n ∧ n ≤ 127
  | .u8, n => 0 ≤ n ∧ n ≤ 255

def kEq : IntKind → IntKind → Bool
  | .i64, .i64 => true | .u64, .u64 => true | .i32, .i32 => true | .u32, .u32 => true
  | .i16, .i16 => true | .u16, .u16 => true | .i8, .i8 => true | .u8, .u8 => true
  | _, _ => false

def hasT (P : Program) (t : TypeId) : Bool :=
  match P.underlying t with
  | some _ => true
  | none => false

def isAggB (P : Program) (t : TypeId) : Bool :=
  match P.underlying t with
  | some (.struct _) => true
  | some (.array _ _) => true
  | _ => false

def zeroLfs (P : Program) (t : TypeId) : Option (List Lf) :=
  match P.info? t with
  | some i => match i.zero with
    | some z => some (z.cells.toList.map ofCell)
    | none => none
  | none => none

/-- What an operation comes to. -/
inductive Res where
  | no (why : String)
  | val (v : SV)
  | cond (c : Prop) (v : SV)
  | ex (a : Option Addr) (c : Prop) (f : Nat → Nat → SV)
  | alloc (T : TypeId) (cells : List Lf) (n : Option Nat)
  | store (key o : Nat) (cells : List Lf)

def intRes (C : Cfg) (dst : Option Tmp) (k : IntKind) (n : Int) : Res :=
  match dst with
  | some d => bif memB d C.wrapAt then .val (.pv (.one (.int k (k.wrap n)))) else .cond (rng k n) (.pv (.one (.int k n)))
  | none => .no "an integer without a slot"

def cmpOf : BinOp → Option Cmp
  | .eql => some .eq | .neq => some .ne | .lss => some .lt | .leq => some .le | .gtr => some .gt | .geq => some .ge
  | _ => none

def Lf.asB : Lf → Option Bool
  | .cmp c a b => some (c.b a b)
  | .bool b => some b
  | .tf b => some b
  | _ => none

def isBoolT (P : Program) (t : TypeId) : Bool :=
  match P.underlying t with
  | some .bool => true
  | _ => false

def binRes (C : Cfg) (dst : Option Tmp) (op : BinOp) (t : TypeId) (x y : SV) : Res :=
  match x, y with
  | .pv (.one (.int k a)), .pv (.one (.int k' b)) =>
    match op with
    | .shl => .cond (0 ≤ b) (.pv (.one (.int k (k.wrap (a * 2 ^ (min b.toNat k.bits))))))
    | .shr => .cond (0 ≤ b) (.pv (.one (.int k (a.fdiv (2 ^ (min b.toNat k.bits))))))
    | .add => bif kEq k k' then intRes C dst k (a + b) else .no "kinds"
    | .sub => bif kEq k k' then intRes C dst k (a - b) else .no "kinds"
    | .mul => bif kEq k k' then intRes C dst k (a * b) else .no "kinds"
    | .quo => bif kEq k k' then .cond (b ≠ 0 ∧ rng k (a.tdiv b)) (.pv (.one (.int k (a.tdiv b)))) else .no "kinds"
    | .rem => bif kEq k k' then .cond (b ≠ 0) (.pv (.one (.int k (a.tmod b)))) else .no "kinds"
    | .and => bif kEq k k' then .val (.pv (.one (.int k (k.wrap ((BitVec.ofInt k.bits a) &&& (BitVec.ofInt k.bits b)).toNat)))) else .no "kinds"
    | .or => bif kEq k k' then .val (.pv (.one (.int k (k.wrap ((BitVec.ofInt k.bits a) ||| (BitVec.ofInt k.bits b)).toNat)))) else .no "kinds"
    | .xor => bif kEq k k' then .val (.pv (.one (.int k (k.wrap ((BitVec.ofInt k.bits a) ^^^ (BitVec.ofInt k.bits b)).toNat)))) else .no "kinds"
    | .andNot => bif kEq k k' then .val (.pv (.one (.int k (k.wrap ((BitVec.ofInt k.bits a) &&& ~~~(BitVec.ofInt k.bits b)).toNat)))) else .no "kinds"
    | _ => match cmpOf op with
      | some c => bif kEq k k' then .val (.pv (.one (.cmp c a b))) else .no "kinds"
      | none => .no "an operator on integers"
  | .pv (.one (.str a)), .pv (.one (.str b)) =>
    match op with
    | .eql => .val (.pv (.one (.bool (a.toList == b.toList))))
    | .neq => .val (.pv (.one (.bool (!(a.toList == b.toList)))))
    | _ => .no "an operator on strings"
  | .pv (.one l), .pv (.one m) =>
    match l.asB, m.asB with
    | some a, some b =>
      bif isBoolT C.P t then
      match op with
      | .eql => .val (.pv (.one (.bool (a == b))))
      | .neq => .val (.pv (.one (.bool (!(a == b)))))
      | _ => .no "an operator on bools"
      else .no "type of a comparison"
    | _, _ => .no "operands of an operator"
  | _, _ => .no "operands of an operator"

def unRes (C : Cfg) (dst : Option Tmp) (op : UnOp) (x : SV) : Res :=
  match op, x with
  | .not, .pv (.one (.cmp c a b)) => .val (.pv (.one (.cmp c.no a b)))
  | .not, .pv (.one (.bool b)) => .val (.pv (.one (.bool (!b))))
  | .not, .pv (.one (.tf b)) => .val (.pv (.one (.tf (!b))))
  | .neg, .pv (.one (.int k n)) => intRes C dst k (0 - n)
  | _, _ => .no "an operator on one operand"

def PV.cells : PV → List Lf
  | .one l => [l]
  | .agg cs => cs

def setAt {α : Type} : List α → Nat → List α → List α
  | cs, _, [] => cs
  | [], _, _ => []
  | _ :: cs, 0, v :: vs => v :: setAt cs 0 vs
  | c :: cs, n + 1, vs => c :: setAt cs n vs

def hasL (L : Nat → Option LocE) (k : Nat) : Bool :=
  match L k with
  | some _ => true
  | none => false

def okLf (L : Nat → Option LocE) : Lf → Bool
  | .loc k _ => hasL L k
  | .lsl k _ _ _ => hasL L k
  | _ => true
def okLfs (L : Nat → Option LocE) : List Lf → Bool
  | [] => true
  | l :: r => okLf L l && okLfs L r
def okPVs (L : Nat → Option LocE) : List PV → Bool
  | [] => true
  | .one l :: r => okLf L l && okPVs L r
  | .agg cs :: r => okLfs L cs && okPVs L r

def noVals : List Lf → Bool
  | [] => true
  | .val _ :: _ => false
  | _ :: r => noVals r

/-- A struct or an array out of its parts: (place, size, cells) each. -/
def fillLf (L : Nat → Option LocE) (place : Nat → Option (Nat × Nat)) (ev : Operand → SV) : List Lf → List (Nat × Operand) → Option (List Lf)
  | cs, [] => some cs
  | cs, (i, x) :: rest =>
    match place i, ev x with
    | some (off, size), .pv p =>
      bif noVals p.cells && (okLfs L p.cells && (Nat.beq p.cells.length size && Nat.ble (off + size) cs.length)) then fillLf L place ev (setAt cs off p.cells) rest else none
    | _, _ => none

def placesOf (P : Program) (fs : Array Field) (i : Nat) : Option (Nat × Nat) :=
  match fs[i]? with
  | some f => some (f.offset, P.cellsOf f.type)
  | none => none

def buildRes (C : Cfg) (L : Nat → Option LocE) (ev : Operand → SV) (t : TypeId) (ps : Array (Nat × Operand)) : Res :=
  match zeroLfs C.P t, C.P.underlying t with
  | some z, some (.struct fs) =>
    bif fs.toList.all (fun f => hasT C.P f.type) then
    match fillLf L (placesOf C.P fs) ev z ps.toList with
    | some cs => .val (.pv (.agg cs))
    | none => .no "build"
    else .no "build a fields type"
  | some z, some (.array _ e) =>
    bif hasT C.P e then
    match fillLf L (fun i => some (i * C.P.cellsOf e, C.P.cellsOf e)) ev z ps.toList with
    | some cs => .val (.pv (.agg cs))
    | none => .no "build"
    else .no "build an elements type"
  | _, _ => .no "build type"

def repLf (z : List Lf) : Nat → List Lf
  | 0 => []
  | n + 1 => z ++ repLf z n

def sliceRes (C : Cfg) (L : Nat → Option LocE) (ev : Operand → SV) (t : TypeId) (n : Nat) (ps : Array (Nat × Operand)) : Res :=
  match C.P.underlying t with
  | some (.slice e) =>
    match zeroLfs C.P e with
    | some z =>
      bif hasT C.P e && (Nat.beq z.length (C.P.cellsOf e) && Nat.ble (n * C.P.cellsOf e) 1024) then
      match fillLf L (fun i => some (i * C.P.cellsOf e, C.P.cellsOf e)) ev (repLf z n) ps.toList with
      | some cs => .alloc e cs (some n)
      | none => .no "buildSlice"
      else .no "buildSlice size"
    | none => .no "buildSlice zero"
  | _ => .no "buildSlice type"

def takeN : Nat → List Lf → Option (List Lf)
  | 0, _ => some []
  | n + 1, c :: cs => match takeN n cs with
    | some r => some (c :: r)
    | none => none
  | _ + 1, [] => none

/-- Cells that hold integers of a kind. -/
def intsK (k : IntKind) : List Lf → Option (List Int)
  | [] => some []
  | l :: r => match l with
    | .int k' x => bif kEq k k' then match intsK k r with
      | some xs => some (x :: xs)
      | none => none
      else none
    | _ => none
def nthI (l : List Int) (j : Int) : Int := l.getD j.toNat 0

/-- A part of some cells, by type. -/
def partOf (P : Program) (t : TypeId) (off : Nat) (cs : List Lf) : Option PV :=
  bif hasT P t then bif isAggB P t then bif Nat.ble off cs.length then match takeN (P.cellsOf t) (cs.drop off) with
    | some r => some (.agg r)
    | none => none
    else none
  else match cs.drop off with
    | c :: _ => some (.one c)
    | [] => none
  else none

def Lf.isPtr (L : Nat → Option LocE) : Lf → Bool
  | .ptr _ _ => true
  | .loc k _ => hasL L k
  | .fn _ _ _ _ => true
  | .fv _ _ _ => true
  | .map _ => true
  | _ => false

def plusOff (L : Nat → Option LocE) (l : Lf) (k : Nat) : Option Lf :=
  match l with
  | .ptr b o => some (.ptr b (o + k))
  | .loc key o => bif hasL L key then some (.loc key (o + k)) else none
  | _ => none

def minL : List SV → Option (IntKind × Int)
  | [] => none
  | [.pv (.one (.int k a))] => some (k, a)
  | _ => none

def mm (mx : Bool) (k : IntKind) (acc : Int) : List SV → Option Int
  | [] => some acc
  | v :: r => match v with
    | .pv (.one (.int k' b)) => bif kEq k k' then mm mx k (bif mx then max acc b else min acc b) r else none
    | _ => none

/-- The variables of the call's own that values mention. -/
def lfKeysF : List Lf → List Nat
  | [] => []
  | .loc k _ :: r => k :: lfKeysF r
  | .lsl k _ _ _ :: r => k :: lfKeysF r
  | .fn _ _ _ ks :: r => ks ++ lfKeysF r
  | _ :: r => lfKeysF r
def SV.lfs : SV → List Lf
  | .pv p => p.cells
  | .tup vs => vs.flatMap PV.cells
  | _ => []
def evKeys (s : SS) : List Operand → List Nat
  | [] => []
  | x :: xs => lfKeysF (s.ev x).lfs ++ evKeys s xs

/-- The values of operands. -/
def evVs (s : SS) : List Operand → Option (List Value)
  | [] => some []
  | x :: xs => match (s.ev x).toV s.L, evVs s xs with
    | some v, some vs => some (v :: vs)
    | _, _ => none

def mmRes (s : SS) (mx : Bool) (args : List Operand) : Res :=
  match args with
  | x :: r => match s.ev x with
    | .pv (.one (.int k a)) => match mm mx k a (r.map s.ev) with
      | some n => .val (.pv (.one (.int k n)))
      | none => .no "min max"
    | _ => .no "min max"
  | [] => .no "min max"

def lenRes (C : Cfg) (s : SS) (ats : Array TypeId) (args : Array Operand) : Res :=
  match args.toList, ats.toList with
  | [x], [t] => match C.P.underlying t, s.ev x with
    | some (.slice _), .pv (.one (.sl _ n _)) => .val (.pv (.one (.int .i64 n)))
    | some (.slice _), .pv (.one (.lsl k _ n _)) => bif hasL s.L k then .val (.pv (.one (.int .i64 n))) else .no "len"
    | some .string, .pv (.one (.str b)) => .val (.pv (.one (.int .i64 b.size)))
    | _, _ => .no "len"
  | _, _ => .no "len"

/-- Where a part of a slice begins. -/
def subA (a : Option Addr) (c l size : Nat) : Option Addr := if c = l then a else a.map fun p => p.add (l * size)
/-- A bound of a part: none, or an integer. -/
def bndOf (s : SS) : Option Operand → Option (Option Int)
  | none => some none
  | some y => match s.ev y with
    | .pv (.one (.int _ i)) => some (some i)
    | _ => none
def lowOf : Option Int → Int
  | some i => i
  | none => 0
def highOf (n : Nat) : Option Int → Nat
  | some i => i.toNat
  | none => n
def bndOk (n c : Nat) (l h : Option Int) : Prop :=
  match h with
  | some h => (0 ≤ lowOf l ∧ lowOf l ≤ h) ∧ h ≤ (c : Int)
  | none => 0 ≤ lowOf l ∧ lowOf l ≤ (n : Int)
/-- A part of a slice, or of a string. -/
def subRes (C : Cfg) (s : SS) (t : TypeId) (x : Operand) (lo hi : Option Operand) : Res :=
  match bndOf s lo, bndOf s hi, C.P.underlying t, s.ev x with
  | some l, some h, some (.slice e), .pv (.one (.sl a n c)) => bif hasT C.P e then .cond (bndOk n c l h) (.pv (.one (.sl (subA a c (lowOf l).toNat (C.P.cellsOf e)) (highOf n h - (lowOf l).toNat) (c - (lowOf l).toNat)))) else .no "slice"
  | some l, some h, some .string, .pv (.one (.str b)) => .cond (bndOk b.size b.size l h) (.pv (.one (.str (b.extract (lowOf l).toNat (highOf b.size h)))))
  | _, _, _, _ => .no "slice"

/-- A whole array as a slice. -/
def fullRes (C : Cfg) (s : SS) (t : TypeId) (x : Operand) (lo hi mx : Option Operand) : Res :=
  match lo, hi, mx with
  | none, none, none => match C.P.underlying t, s.ev x with
    | some (.array n e), .pv (.one (.loc k o)) => bif hasT C.P e && hasL s.L k then .val (.pv (.one (.lsl k o n n))) else .no "slice"
    | some (.array n e), .pv (.one (.ptr b o)) => bif hasT C.P e then .val (.pv (.one (.sl (some ⟨b, o, Option.none⟩) n n))) else .no "slice"
    | _, _ => .no "slice"
  | _, _, some _ => .no "slice"
  | _, _, none => subRes C s t x lo hi

/-- A variable that lives on as memory like any other. -/
def escD (C : Cfg) (d : Option Tmp) : Bool :=
  match d with
  | some d => memB d C.esc
  | none => false

/-- The plain operations: no call, no memory but the call's own. -/
def resOf (C : Cfg) (s : SS) (dst : Option Tmp) (op : Op) : Res :=
  match op with
  | .move x => match s.ev x with
    | .none => .no "move of an unknown value"
    | .undef => .no "move of nothing"
    | v => .val v
  | .assign x => match s.ev x with
    | .none => .no "assign of an unknown value"
    | .undef => .no "assign of nothing"
    | v => .val v
  | .pick c a b => match s.ev c with
    | .pv (.one (.tf true)) => match s.ev a with
      | .pv v => .val (.pv v)
      | _ => .no "pick"
    | .pv (.one (.tf false)) => match s.ev b with
      | .pv v => .val (.pv v)
      | _ => .no "pick"
    | _ => .no "pick"
  | .alloc t => bif escD C dst then .no "esc" else match zeroLfs C.P t with
    | some z => .alloc t z none
    | none => .no "alloc"
  | .box t x => bif escD C dst then .no "esc" else match s.ev x with
    | .pv p => .alloc t p.cells none
    | _ => .no "box"
  | .build t ps => buildRes C s.L s.ev t ps
  | .buildSlice t n ps => bif escD C dst then .no "esc" else sliceRes C s.L s.ev t n ps
  | .load t x => match s.ev x with
    | .pv (.one (.loc k o)) => match s.L k with
      | some e => match partOf C.P t o e.cells with
        | some p => .val (.pv p)
        | none => .no "load"
      | none => .no "load no such variable"
    | _ => .no "load"
  | .store t x y => match s.ev x, s.ev y with
    | .pv (.one (.loc k o)), .pv p => match s.L k with
      | some e => bif hasT C.P t && (Nat.beq p.cells.length (C.P.cellsOf t) && Nat.ble (o + p.cells.length) e.cells.length) then .store k o p.cells else .no "store size"
      | none => .no "store no such variable"
    | _, _ => .no "store"
  | .nilCheck x => match s.ev x with
    | .pv (.one (.op a)) => .ex a True (fun b o => .pv (.one (.ptr b o)))
    | .pv (.one l) => bif l.isPtr s.L then .val (.pv (.one l)) else .no "nilCheck"
    | _ => .no "nilCheck"
  | .binOp op t x y _ => binRes C dst op t (s.ev x) (s.ev y)
  | .unOp op _ x => unRes C dst op (s.ev x)
  | .convert st t x => match C.P.underlying st, C.P.underlying t, s.ev x with
    | some (.int _), some (.int k), .pv (.one (.int _ n)) => intRes C dst k n
    | _, _, _ => .no "convert"
  | .fieldAddr t x f => match C.P.underlying t, s.ev x with
    | some (.struct fs), .pv (.one l) => match fs[f]? with
      | some fl => bif hasT C.P fl.type && Nat.blt 0 (C.P.cellsOf fl.type) then match plusOff s.L l fl.offset with
        | some l' => .val (.pv (.one l'))
        | none => .no "fieldAddr"
        else .no "fieldAddr size"
      | none => .no "fieldAddr field"
    | _, _ => .no "fieldAddr"
  | .field t x f => match C.P.underlying t, s.ev x with
    | some (.struct fs), .pv (.agg cs) => match fs[f]? with
      | some fl => bif okLfs s.L cs then match partOf C.P fl.type fl.offset cs with
        | some p => .val (.pv p)
        | none => .no "field"
        else .no "field cells"
      | none => .no "field"
    | _, _ => .no "field"
  | .extract x i => match s.ev x with
    | .tup vs => bif okPVs s.L vs then match vs.drop i with
      | v :: _ => .val (.pv v)
      | [] => .no "extract"
      else .no "extract cells"
    | _ => .no "extract"
  | .indexAddr t x i => match C.P.underlying t, s.ev x, s.ev i with
    | some (.slice e), .pv (.one (.sl a n _)), .pv (.one (.int _ j)) => bif !(hasT C.P e) then .no "indexAddr type" else .ex a (0 ≤ j ∧ j < (n : Int)) (fun b o => .pv (.one (.ptr b (o + j.toNat * C.P.cellsOf e))))
    | some (.array n e), .pv (.one (.ptr b o)), .pv (.one (.int _ j)) => bif !(hasT C.P e) then .no "indexAddr type" else .cond (0 ≤ j ∧ j < (n : Int)) (.pv (.one (.ptr b (o + j.toNat * C.P.cellsOf e))))
    | some (.array n e), .pv (.one (.loc k o)), .pv (.one (.int _ (.ofNat j))) => bif Nat.blt j n && (hasT C.P e && hasL s.L k) then .val (.pv (.one (.loc k (o + j * C.P.cellsOf e)))) else .no "indexAddr out of range"
    | _, _, _ => .no "indexAddr"
  | .index t x i => match C.P.underlying t, s.ev x, s.ev i with
    | some (.array n e), .pv (.agg cs), .pv (.one (.int _ j)) => bif hasT C.P e && (!(isAggB C.P e) && (Nat.beq (C.P.cellsOf e) 1 && Nat.beq cs.length n)) then match cs with
      | .int k _ :: _ => match intsK k cs with
        | some l => .cond (0 ≤ j ∧ j < (n : Int)) (.pv (.one (.int k (nthI l j))))
        | none => .no "index"
      | _ => .no "index"
      else .no "index"
    | _, _, _ => .no "index"
  | .call { callee := .builtin .len, args, argTypes } => lenRes C s argTypes args
  | .call { callee := .builtin .max, args, .. } => mmRes s true args.toList
  | .call { callee := .builtin .min, args, .. } => mmRes s false args.toList
  | .slice t x lo hi mx => fullRes C s t x lo hi mx
  | .makeFunc (.func f) first cap => match evVs s first.toList, evVs s cap.toList with
    | some a, some b => .val (.pv (.one (.fn f a b (evKeys s (first.toList ++ cap.toList)))))
    | _, _ => .no "makeFunc"
  | _ => .no "an operation that is not plain"

end Go.Vc
end
section
namespace Go.Vc
open Go.RowKit

def SimS (s : SS) (a : Act) : Prop := ∀ d, s.sl d ≠ .none → ∃ v, (s.sl d).toV s.L = some v ∧ a.tmps[d]? = some v
def MemS (s : SS) (w : World) : Prop := ∀ k e, s.L k = some e → ∃ vs, toVs s.L e.cells = some vs ∧ w.heap[e.b]? = some (.cells vs.toArray e.T (0, 0))

theorem ofCell_some {L : Nat → Option LocE} (v : Value) : (ofCell v).toV L = some v := by
  unfold ofCell
  split <;> simp [Lf.toV]
theorem toVs_map_ofCell {L : Nat → Option LocE} : ∀ (vs : List Value), toVs L (vs.map ofCell) = some vs
  | [] => rfl
  | v :: vs => by simp [toVs, ofCell_some, toVs_map_ofCell vs]
theorem ofConst_some {L : Nat → Option LocE} {v : Value} (h : ofConst v ≠ .none) : (ofConst v).toV L = some v := by
  unfold ofConst at h ⊢
  split
  · simp only [SV.toV, PV.toV, toVs_map_ofCell]
  · simp at h
  · simp only [SV.toV, PV.toV, ofCell_some]

theorem ev_spec {s : SS} {a : Act} (hs : SimS s a) {x : Operand} (h : s.ev x ≠ .none) : ∃ v, (s.ev x).toV s.L = some v ∧ a.eval x = v := by
  cases x with
  | tmp t =>
    obtain ⟨v, h1, h2⟩ := hs t h
    exact ⟨v, h1, by simp [Act.eval, Array.getD_eq_getD_getElem?, h2]⟩
  | const c => exact ⟨c, ofConst_some h, rfl⟩
  | global g => exact ⟨_, rfl, rfl⟩
  | func f => exact ⟨_, rfl, rfl⟩

section
variable {P : Program} {w : World} {ρ : Operand → Value} {d : Option Tmp} {t u ty : TypeId} {p : String} {af : Array Edge} {g : Option (Nat × Bool)} {x y : Operand} {k : IntKind} {m n : Int}

theorem run_bin {op : BinOp} {a b : Value} (hx : ρ x = a) (hy : ρ y = b) (hg : (eqGuard op t x y a b).run P w = .ok () w) {v : Value} (h : (binOp op t a b).run P w = .ok v w) :
    (execOp ρ { dst := d, op := .binOp op t x y u, type := ty, pos := p, after := af, guard := g }).run P w = .ok (.value v) w := by
  simp [execOp, hx, hy, hg, h, go_sem]

theorem guard_int {op : BinOp} {k' : IntKind} : (eqGuard op t x y (.int k m) (.int k' n)).run P w = .ok () w := by
  unfold eqGuard; split <;> simp [go_sem]
theorem guard_str {op : BinOp} {a b : ByteArray} : (eqGuard op t x y (.string a) (.string b)).run P w = .ok () w := by
  unfold eqGuard; split <;> simp [go_sem]
theorem guard_bool {op : BinOp} {a b : Bool} : (eqGuard op t x y (.bool a) (.bool b)).run P w = .ok () w := by
  unfold eqGuard; split <;> simp [go_sem]
end

theorem kEq_eq {k k' : IntKind} (h : kEq k k' = true) : k = k' := by cases k <;> cases k' <;> first | rfl | (simp [kEq] at h)

theorem wrap_of_rng {k : IntKind} {n : Int} (h : rng k n) : k.wrap n = n := by
  cases k <;> simp only [rng] at h <;> simp only [IntKind.wrap, IntKind.bits, IntKind.signed, Bool.true_and, Bool.false_and] <;>
    first
      | (simp only [Bool.false_eq_true, if_false]; omega)
      | (simp only [ge_iff_le, decide_eq_true_eq]; split <;> omega)

/-- What 'Res' says of a run that leaves the world alone: the value. -/
def Yields (s : SS) (w : World) (r : Result Next) (sv : SV) : Prop := ∃ v, r = .ok (.value v) w ∧ sv.toV s.L = some v

theorem Yields.mk {s : SS} {w : World} {r : Result Next} {sv : SV} {v : Value} (h : r = .ok (.value v) w) (h' : sv.toV s.L = some v) : Yields s w r sv :=
  ⟨v, h, h'⟩

def OneV : Value → Prop
  | .agg _ => False
  | .tuple _ => False
  | _ => True

def oneOk : Lf → Prop
  | .val v => OneV v
  | _ => True

/-- What a row of stores does to memory. -/
structure Stored (w w' : World) (b o : Nat) (T : TypeId) (us : List Value) : Prop where
  os : w'.os = w.os
  tape : w'.tape = w.tape
  output : w'.output = w.output
  size : w'.heap.size = w.heap.size
  other : ∀ j, j ≠ b → w'.heap[j]? = w.heap[j]?
  here : ∀ cs, w.heap[b]? = some (.cells cs T (0, 0)) → ∃ cs', w'.heap[b]? = some (.cells cs' T (0, 0)) ∧ cs'.size = cs.size ∧ ∀ i, cs'[i]? = if o ≤ i ∧ i < o + us.length then us[i - o]? else cs[i]?

/-- What a plain operation's 'Res' promises. -/
def ResOk (C : Cfg) (s : SS) (w : World) (r : Result Next) : Res → Prop
  | .no _ => True
  | .val sv => Yields s w r sv
  | .cond c sv => c → Yields s w r sv
  | .ex a c f => ∀ b o, a = some ⟨b, o, none⟩ → c → Yields s w r (f b o)
  | .alloc T cells n => (∀ l ∈ cells, oneOk l) → ∃ vs, toVs s.L cells = some vs ∧ r = .ok (.value (match n with | none => .pointer (some ⟨w.heap.size, 0, none⟩) | some n => .slice (some ⟨w.heap.size, 0, none⟩) n n)) { w with heap := w.heap.push (.cells vs.toArray T (0, 0)) }
  | .store k o cells => ∀ e, s.L k = some e → (∀ l ∈ cells, oneOk l) → (∃ cs, w.heap[e.b]? = some (.cells cs e.T (0, 0)) ∧ cs.size = e.cells.length) → ∃ us w', toVs s.L cells = some us ∧ r = .ok .skip w' ∧ Stored w w' e.b o e.T us ∧ o + us.length ≤ e.cells.length

theorem int_ok {C : Cfg} {s : SS} {w : World} {r : Result Next} {dst : Option Tmp} {k : IntKind} {n : Int} (h : r = .ok (.value (.int k (k.wrap n))) w) : ResOk C s w r (intRes C dst k n) := by
  unfold intRes
  split
  · rename_i d
    cases memB d C.wrapAt
    · intro hr; rw [wrap_of_rng hr] at h; exact .mk h rfl
    · exact .mk h rfl
  · trivial

theorem asB_spec {L : Nat → Option LocE} {l : Lf} {b : Bool} (h : l.asB = some b) : (SV.pv (.one l)).toV L = some (.bool b) := by
  cases l <;> simp [Lf.asB] at h <;> simp [SV.toV, PV.toV, Lf.toV, h]

section
variable {C : Cfg} {s : SS} {ρ : Operand → Value} {w : World} {d : Option Tmp} {t u ty : TypeId} {p : String} {af : Array Edge} {g : Option (Nat × Bool)} {x y : Operand}

def EvOk (s : SS) (ρ : Operand → Value) : Prop := ∀ (x : Operand), s.ev x ≠ .none → ∃ v, (s.ev x).toV s.L = some v ∧ ρ x = v
theorem EvOk.get (h : EvOk s ρ) {x : Operand} {v : Value} (hx : (s.ev x).toV s.L = some v) : ρ x = v := by
  obtain ⟨u, h1, h2⟩ := h x (fun e => by rw [e] at hx; simp [SV.toV] at hx)
  rw [hx] at h1; rw [h2]; exact (Option.some.inj h1).symm
theorem EvOk.int (h : EvOk s ρ) {x : Operand} {k : IntKind} {n : Int} (hx : s.ev x = .pv (.one (.int k n))) : ρ x = .int k n := h.get (by rw [hx]; rfl)
theorem evOk_of_sim {a : Act} (h : SimS s a) : EvOk s a.eval := fun _ hx => ev_spec h hx

theorem bin_ok (hs : EvOk s ρ) {op : BinOp} : ResOk C s w ((execOp ρ { dst := d, op := .binOp op t x y u, type := ty, pos := p, after := af, guard := g }).run C.P w) (binRes C d op t (s.ev x) (s.ev y)) := by
  unfold binRes
  split
  · rename_i k m k' n hx hy
    have ex := hs.int hx
    have ey := hs.int hy
    have R : ∀ {v : Value}, (binOp op t (.int k m) (.int k' n)).run C.P w = .ok v w → (execOp ρ { dst := d, op := .binOp op t x y u, type := ty, pos := p, after := af, guard := g }).run C.P w = .ok (.value v) w := fun h => run_bin ex ey guard_int h
    cases op <;> simp only [cmpOf]
    case shl => intro h; exact .mk (R (by simp [binOp, Op.shift, go_sem, Int.not_lt.2 h])) rfl
    case shr => intro h; exact .mk (R (by simp [binOp, Op.shift, go_sem, Int.not_lt.2 h])) rfl
    all_goals (cases hk : kEq k k' <;> simp only [cond_true, cond_false] <;> (try trivial))
    all_goals (obtain rfl := kEq_eq hk)
    · exact int_ok (R (by simp [binOp, Op.intArith, go_sem]))
    · exact int_ok (R (by simp [binOp, Op.intArith, go_sem]))
    · exact int_ok (R (by simp [binOp, Op.intArith, go_sem]))
    · intro h; exact .mk (R (by simp [binOp, Op.intDiv, go_sem, h.1, wrap_of_rng h.2])) rfl
    · intro h; exact .mk (R (by simp [binOp, Op.intDiv, go_sem, h])) rfl
    · exact .mk (R (by simp [binOp, Op.intBits, go_sem])) rfl
    · exact .mk (R (by simp [binOp, Op.intBits, go_sem])) rfl
    · exact .mk (R (by simp [binOp, Op.intBits, go_sem])) rfl
    · exact .mk (R (by simp [binOp, Op.intBits, go_sem])) rfl
    all_goals exact .mk (R (by simp [binOp, Op.intCmp, go_sem]; try rfl)) rfl
  · rename_i b c hx hy
    have ex := hs.get (x := x) (v := .string b) (by rw [hx]; rfl)
    have ey := hs.get (x := y) (v := .string c) (by rw [hy]; rfl)
    have R : ∀ {v : Value}, (binOp op t (.string b) (.string c)).run C.P w = .ok v w → (execOp ρ { dst := d, op := .binOp op t x y u, type := ty, pos := p, after := af, guard := g }).run C.P w = .ok (.value v) w := fun h => run_bin ex ey guard_str h
    cases op <;> (try trivial) <;> exact .mk (R (by simp [binOp, Op.stringOp, go_sem])) rfl
  · rename_i l m _ _ hx hy
    split
    · rename_i b c hb hc
      have ex := hs.get (x := x) (v := .bool b) (by rw [hx]; exact asB_spec hb)
      have ey := hs.get (x := y) (v := .bool c) (by rw [hy]; exact asB_spec hc)
      have R : ∀ {v : Value}, (binOp op t (.bool b) (.bool c)).run C.P w = .ok v w → (execOp ρ { dst := d, op := .binOp op t x y u, type := ty, pos := p, after := af, guard := g }).run C.P w = .ok (.value v) w := fun h => run_bin ex ey guard_bool h
      cases hb : isBoolT C.P t
      · trivial
      · have ht : C.P.underlying t = some .bool := by
          unfold isBoolT at hb
          split at hb
          · assumption
          · cases hb
        simp only [cond_true]
        cases op <;> (try trivial)
        · exact .mk (R (by simp [binOp, run_equal_bool _ _ _ _ ht, go_sem])) rfl
        · exact .mk (R (by simp [binOp, run_equal_bool _ _ _ _ ht, go_sem])) rfl
    · trivial
  · trivial

theorem un_ok (hs : EvOk s ρ) {op : UnOp} : ResOk C s w ((execOp ρ { dst := d, op := .unOp op t x, type := ty, pos := p, after := af, guard := g }).run C.P w) (unRes C d op (s.ev x)) := by
  unfold unRes
  split
  · rename_i c m n hx
    have ex := hs.get (x := x) (v := .bool (c.b m n)) (by rw [hx]; rfl)
    refine .mk (v := .bool (c.no.b m n)) ?_ rfl
    have : (!c.b m n) = c.no.b m n := by cases c <;> simp [Cmp.b, Cmp.no, Bool.not_eq_eq_eq_not] <;> grind
    simp [execOp, ex, Op.unary, go_sem, this]
  · rename_i b hx
    have ex := hs.get (x := x) (v := .bool b) (by rw [hx]; rfl)
    exact .mk (by simp [execOp, ex, Op.unary, go_sem]) rfl
  · rename_i b hx
    have ex := hs.get (x := x) (v := .bool b) (by rw [hx]; rfl)
    exact .mk (by simp [execOp, ex, Op.unary, go_sem]) rfl
  · rename_i k n hx
    have ex := hs.int hx
    exact int_ok (by simp [execOp, ex, Op.unary, Op.intArith, go_sem])
  · trivial

theorem move_ok (hs : EvOk s ρ) : ResOk C s w ((execOp ρ { dst := d, op := .move x, type := ty, pos := p, after := af, guard := g }).run C.P w) (resOf C s d (.move x)) := by
  simp only [resOf]
  split
  · trivial
  · trivial
  · rename_i h1 _
    obtain ⟨v, h2, h3⟩ := hs x h1
    exact ⟨v, by simp [execOp, go_sem, h3], h2⟩

theorem assign_ok (hs : EvOk s ρ) : ResOk C s w ((execOp ρ { dst := d, op := .assign x, type := ty, pos := p, after := af, guard := g }).run C.P w) (resOf C s d (.assign x)) := by
  simp only [resOf]
  split
  · trivial
  · trivial
  · rename_i h1 _
    obtain ⟨v, h2, h3⟩ := hs x h1
    exact ⟨v, by simp [execOp, go_sem, h3], h2⟩

theorem pick_ok (hs : EvOk s ρ) {c : Operand} : ResOk C s w ((execOp ρ { dst := d, op := .pick c x y, type := ty, pos := p, after := af, guard := g }).run C.P w) (resOf C s d (.pick c x y)) := by
  simp only [resOf]
  split
  · rename_i hc
    have ec := hs.get (x := c) (v := .bool true) (by rw [hc]; rfl)
    split
    · rename_i v hv
      obtain ⟨u, h2, h3⟩ := hs x (by rw [hv]; simp)
      exact ⟨u, by simp [execOp, ec, asBool, go_sem, h3], by rw [← hv]; exact h2⟩
    · trivial
  · rename_i hc
    have ec := hs.get (x := c) (v := .bool false) (by rw [hc]; rfl)
    split
    · rename_i v hv
      obtain ⟨u, h2, h3⟩ := hs y (by rw [hv]; simp)
      exact ⟨u, by simp [execOp, ec, asBool, go_sem, h3], by rw [← hv]; exact h2⟩
    · trivial
  · trivial

theorem toVs_length {L : Nat → Option LocE} : ∀ {cs : List Lf} {vs : List Value}, toVs L cs = some vs → vs.length = cs.length
  | [], vs, h => by simp [toVs] at h; simp [← h]
  | c :: cs, vs, h => by
    simp only [toVs] at h
    split at h
    · rename_i u us hu hus
      simp at h; subst h
      simp [toVs_length hus]
    · simp at h
theorem takeN_spec : ∀ {n : Nat} {cs r : List Lf}, takeN n cs = some r → r = cs.take n ∧ n ≤ cs.length
  | 0, cs, r, h => by simp [takeN] at h; simp [← h]
  | n + 1, [], r, h => by simp [takeN] at h
  | n + 1, c :: cs, r, h => by
    simp only [takeN] at h
    split at h
    · rename_i r' hr
      simp at h; subst h
      obtain ⟨h1, h2⟩ := takeN_spec hr
      simp [h1, h2]
    · simp at h
theorem toVs_drop {L : Nat → Option LocE} : ∀ {cs : List Lf} {vs : List Value} (i : Nat), toVs L cs = some vs → toVs L (cs.drop i) = some (vs.drop i)
  | [], vs, i, h => by simp [toVs] at h; subst h; simp [toVs]
  | c :: cs, vs, i, h => by
    cases i with
    | zero => simpa using h
    | succ i =>
      simp only [toVs] at h
      split at h
      · rename_i u us hu hus
        simp at h; subst h
        simpa using toVs_drop i hus
      · simp at h
theorem toVs_take {L : Nat → Option LocE} : ∀ {cs : List Lf} {vs : List Value} (i : Nat), toVs L cs = some vs → toVs L (cs.take i) = some (vs.take i)
  | [], vs, i, h => by simp [toVs] at h; subst h; simp [toVs]
  | c :: cs, vs, i, h => by
    cases i with
    | zero => simp [toVs]
    | succ i =>
      simp only [toVs] at h
      split at h
      · rename_i u us hu hus
        simp at h; subst h
        have := toVs_take i hus
        simp [toVs, hu, this]
      · simp at h
end

theorem add_spot (b o i : Nat) : (⟨b, o, none⟩ : Addr).add i = ⟨b, o + i, none⟩ := by
  unfold Addr.add; split
  · subst_vars; rfl
  · rfl

theorem run_load_cell {P : Program} {w : World} {b o : Nat} {cs : Array Value} {T : TypeId} {fr : Nat × Nat} {v : Value} (h : w.heap[b]? = some (.cells cs T fr)) (hv : cs[o]? = some v) :
    (load ⟨b, o, none⟩).run P w = .ok v w := by
  simp [load, Sem.run, World.cell?, h, hv]

theorem run_loadCellsFrom {P : Program} {w : World} {b o : Nat} {cs : Array Value} {T : TypeId} {fr : Nat × Nat} (h : w.heap[b]? = some (.cells cs T fr)) :
    ∀ (n i : Nat) (acc : Array Value), o + i + n ≤ cs.size → (loadCellsFrom ⟨b, o, none⟩ i n acc).run P w = .ok (acc ++ cs.extract (o + i) (o + i + n)) w
  | 0, i, acc, hn => by simp [loadCellsFrom, go_sem]; omega
  | n + 1, i, acc, hn => by
    have hlt : o + i < cs.toList.length := by simpa using (by omega : o + i < cs.size)
    have hv : cs[o + i]? = some cs.toList[o + i] := by simp
    simp only [loadCellsFrom, add_spot, Sem.run_bind, run_load_cell h hv, Result.andThen_ok]
    rw [run_loadCellsFrom h n (i + 1) _ (by omega)]
    congr 1
    apply Array.ext'
    simp only [Array.toList_append, Array.toList_push, Array.toList_extract, List.append_assoc, List.singleton_append]
    congr 1
    have e1 : o + (i + 1) = o + i + 1 := by omega
    have e2 : o + i + 1 + n = o + i + (n + 1) := by omega
    rw [e1, e2]
    simp only [List.extract]
    rw [show o + i + (n + 1) - (o + i) = n + 1 from by omega, show o + i + (n + 1) - (o + i + 1) = n from by omega]
    rw [List.drop_eq_getElem_cons (l := cs.toList) (i := o + i) hlt]
    simp

theorem run_loadCells {P : Program} {w : World} {b o n : Nat} {cs : Array Value} {T : TypeId} {fr : Nat × Nat} (h : w.heap[b]? = some (.cells cs T fr)) (hn : o + n ≤ cs.size) :
    (loadCells ⟨b, o, none⟩ n).run P w = .ok (cs.extract o (o + n)) w := by
  have := run_loadCellsFrom (P := P) (o := o) h n 0 #[] (by simpa using hn)
  simpa [loadCells] using this

theorem cellsOf_run {P : Program} {w : World} {t : TypeId} {d : TypeDesc} (h : P.underlying t = some d) : (sizeOf t).run P w = .ok (P.cellsOf t) w := by
  unfold Program.underlying at h
  unfold sizeOf typeInfo Program.cellsOf
  split at h <;> simp_all [program, Sem.run, go_sem]

theorem isAgg_run {P : Program} {w : World} {t : TypeId} {d : TypeDesc} (h : P.underlying t = some d) : (isAgg t).run P w = .ok (isAggB P t) w := by
  unfold isAgg isAggB
  simp only [Sem.run_bind, run_underlying h, Result.andThen_ok, h]
  cases d <;> rfl


theorem toV_one {L : Nat → Option LocE} {l : Lf} {v : Value} (h : l.toV L = some v) (ho : oneOk l) : OneV v := by
  cases l <;> simp only [Lf.toV] at h
  case val v' => simp at h; subst h; exact ho
  case vk v' hk => simp at h; subst h; cases v' <;> first | trivial | exact (Bool.false_ne_true hk).elim
  case loc => split at h <;> simp at h; subst h; trivial
  case lsl => split at h <;> simp at h; subst h; trivial
  all_goals (simp at h; subst h; trivial)

theorem toVs_one {L : Nat → Option LocE} : ∀ {cs : List Lf} {vs : List Value}, toVs L cs = some vs → (∀ l ∈ cs, oneOk l) → ∀ v ∈ vs, OneV v
  | [], vs, h, _, v, hv => by simp [toVs] at h; subst h; simp at hv
  | c :: cs, vs, h, ho, v, hv => by
    simp only [toVs] at h
    split at h
    · rename_i u us hu hus
      simp at h; subst h
      rcases List.mem_cons.1 hv with rfl | hv
      · exact toV_one hu (ho c (by simp))
      · exact toVs_one hus (fun l hl => ho l (by simp [hl])) v hv
    · simp at h

theorem cells_of_pv {L : Nat → Option LocE} {q : PV} {v : Value} (h : q.toV L = some v) (ho : ∀ l ∈ q.cells, oneOk l) : ∃ vs, toVs L q.cells = some vs ∧ v.cells = vs.toArray := by
  cases q with
  | one l =>
    refine ⟨[v], by simp [PV.cells, toVs, show l.toV L = some v from h], ?_⟩
    have := toV_one (show l.toV L = some v from h) (ho l (by simp [PV.cells]))
    cases v <;> first | rfl | exact this.elim
  | agg cs =>
    simp only [PV.toV] at h
    split at h
    · rename_i vs hvs; simp at h; subst h; exact ⟨vs, hvs, rfl⟩
    · simp at h

theorem noVals_spec : ∀ {cs : List Lf}, noVals cs = true → ∀ l ∈ cs, oneOk l
  | c :: cs, h, l, hl => by
    cases c <;> simp only [noVals, Bool.false_eq_true] at h <;> (rcases List.mem_cons.1 hl with rfl | hl'; exact trivial; exact noVals_spec h l hl')

theorem okLfs_spec {L : Nat → Option LocE} : ∀ {cs : List Lf}, okLfs L cs = true → ∃ vs, toVs L cs = some vs
  | [], _ => ⟨[], rfl⟩
  | c :: cs, h => by
    simp only [okLfs, Bool.and_eq_true] at h
    obtain ⟨vs, hvs⟩ := okLfs_spec h.2
    have : ∃ v, c.toV L = some v := by
      cases c <;> simp only [Lf.toV, Option.some.injEq, exists_eq'] <;> (have h1 := h.1; simp only [okLf, hasL] at h1; split at h1 <;> simp_all)
    obtain ⟨v, hv⟩ := this
    exact ⟨v :: vs, by simp [toVs, hv, hvs]⟩
theorem okPVs_spec {L : Nat → Option LocE} : ∀ {cs : List PV}, okPVs L cs = true → ∃ vs, pvs L cs = some vs
  | [], _ => ⟨[], rfl⟩
  | .one c :: cs, h => by
    simp only [okPVs, Bool.and_eq_true] at h
    obtain ⟨vs, hvs⟩ := okPVs_spec h.2
    obtain ⟨us, hus⟩ := okLfs_spec (L := L) (cs := [c]) (by simp [okLfs, h.1])
    simp only [toVs] at hus
    split at hus
    · rename_i u us hu _
      exact ⟨u :: vs, by simp [pvs, PV.toV, hu, hvs]⟩
    · simp at hus
  | .agg c :: cs, h => by
    simp only [okPVs, Bool.and_eq_true] at h
    obtain ⟨vs, hvs⟩ := okPVs_spec h.2
    obtain ⟨us, hus⟩ := okLfs_spec h.1
    exact ⟨.agg us.toArray :: vs, by simp [pvs, PV.toV, hus, hvs]⟩
theorem pvs_drop {L : Nat → Option LocE} : ∀ {cs : List PV} {vs : List Value} (i : Nat) {c : PV} {r : List PV}, pvs L cs = some vs → cs.drop i = c :: r → ∃ v, c.toV L = some v ∧ vs[i]? = some v
  | [], vs, i, c, r, h, hd => by simp at hd
  | e :: cs, vs, i, c, r, h, hd => by
    simp only [pvs] at h
    split at h
    · rename_i u us hu hus
      simp at h; subst h
      cases i with
      | zero => simp at hd; exact ⟨u, by rw [← hd.1]; exact hu, rfl⟩
      | succ i => simp at hd ⊢; exact pvs_drop i hus hd
    · simp at h

theorem hasT_spec {P : Program} {t : TypeId} (h : hasT P t = true) : ∃ d, P.underlying t = some d := by
  unfold hasT at h
  split at h
  · exact ⟨_, ‹_›⟩
  · simp at h
theorem partOf_hasT {P : Program} {t : TypeId} {o : Nat} {cs : List Lf} {q : PV} (h : partOf P t o cs = some q) : ∃ d, P.underlying t = some d := by
  unfold partOf at h
  cases hT : hasT P t
  · simp [hT] at h
  · exact hasT_spec hT

theorem partOf_spec {P : Program} {L : Nat → Option LocE} {t : TypeId} {o : Nat} {cs : List Lf} {q : PV} {vs : List Value} (h : partOf P t o cs = some q) (hv : toVs L cs = some vs) :
    ∃ v, q.toV L = some v ∧ (isAggB P t = true → v = .agg (vs.toArray.extract o (o + P.cellsOf t)) ∧ o + P.cellsOf t ≤ vs.length) ∧ (isAggB P t = false → vs[o]? = some v) := by
  unfold partOf at h
  cases hT : hasT P t <;> simp only [hT, cond_true, cond_false] at h
  · simp at h
  cases ha : isAggB P t <;> simp only [ha, cond_true, cond_false] at h
  · split at h
    · rename_i c r hc
      simp at h; subst h
      have hd := toVs_drop o hv
      rw [hc] at hd
      simp only [toVs] at hd
      split at hd
      · rename_i u us hu hus
        simp at hd
        refine ⟨u, hu, by simp, fun _ => ?_⟩
        have : (vs.drop o)[0]? = some u := by rw [← hd]; rfl
        simpa using this
      · simp at hd
    · simp at h
  · cases hb : Nat.ble o cs.length <;> simp only [hb, cond_true, cond_false] at h
    · simp at h
    have hb' := Nat.le_of_ble_eq_true hb
    split at h
    · rename_i r hr
      simp at h; subst h
      obtain ⟨h1, h2⟩ := takeN_spec hr
      have hd := toVs_take (P.cellsOf t) (toVs_drop o hv)
      rw [← h1] at hd
      have hl := toVs_length hv
      refine ⟨_, by simp only [PV.toV, hd]; rfl, fun _ => ⟨?_, ?_⟩, by simp⟩
      · congr 1; apply Array.ext'; simp [List.extract]
      · simp at h2; omega
    · simp at h

theorem run_loadVar {P : Program} {L : Nat → Option LocE} {w : World} {b o : Nat} {t T : TypeId} {d : TypeDesc} {cs : List Lf} {q : PV} {vs : List Value} {fr : Nat × Nat}
    (hp : partOf P t o cs = some q) (hv : toVs L cs = some vs) (hh : w.heap[b]? = some (.cells vs.toArray T fr)) (hd : P.underlying t = some d) :
    ∃ v, q.toV L = some v ∧ (loadVar t ⟨b, o, none⟩).run P w = .ok v w := by
  obtain ⟨v, h1, h2, h3⟩ := partOf_spec hp hv
  refine ⟨v, h1, ?_⟩
  unfold loadVar
  simp only [Sem.run_bind, isAgg_run hd, Result.andThen_ok]
  cases ha : isAggB P t
  · have := h3 ha
    simp only [Bool.false_eq_true, if_false]
    exact run_load_cell hh (by simpa using this)
  · obtain ⟨rfl, hle⟩ := h2 ha
    simp only [if_true, Sem.run_bind, cellsOf_run hd, Result.andThen_ok, run_loadCells hh (n := P.cellsOf t) (o := o) (by simpa using hle)]
    rfl

theorem run_storeCell {P : Program} {w : World} {b o : Nat} {cs : Array Value} {T : TypeId} {v : Value} (h : w.heap[b]? = some (.cells cs T (0, 0))) (ho : o < cs.size) (hv : OneV v) :
    (store ⟨b, o, none⟩ v).run P w = .ok () (w.setCell ⟨b, o, none⟩ v) := by
  have hf : w.frozen? ⟨b, o, none⟩ = false := by simp [World.frozen?, h]
  have hc : w.cell? ⟨b, o, none⟩ = some cs[o] := by simp [World.cell?, h, ho]
  unfold store
  cases v <;> first | (simp [Sem.run, hf, hc]; done) | exact hv.elim

theorem setCell_stored {w : World} {b o : Nat} {cs : Array Value} {T : TypeId} {v : Value} (h : w.heap[b]? = some (.cells cs T (0, 0))) (ho : o < cs.size) : Stored w (w.setCell ⟨b, o, none⟩ v) b o T [v] := by
  refine ⟨rfl, rfl, rfl, by simp [World.setCell], fun j hj => ?_, fun cs0 h0 => ?_⟩
  · simp only [World.setCell, Array.getElem?_modify]; rw [if_neg (fun e => hj e.symm)]
  · rw [h] at h0; simp only [Option.some.injEq, Obj.cells.injEq, and_true] at h0; subst h0
    refine ⟨cs.setIfInBounds o v, by simp [World.setCell, Array.getElem?_modify, h], by simp, fun i => ?_⟩
    by_cases hi : i = o
    · subst hi; simp [ho]
    · rw [if_neg (by simp; omega), Array.getElem?_setIfInBounds_ne (fun e => hi e.symm)]

theorem run_storeCells {P : Program} {b : Nat} {T : TypeId} : ∀ (us : List Value) (i o : Nat) (w : World) (cs : Array Value), w.heap[b]? = some (.cells cs T (0, 0)) → o + i + us.length ≤ cs.size → (∀ u ∈ us, OneV u) →
    ∃ w', (storeCells ⟨b, o, none⟩ us i).run P w = .ok () w' ∧ Stored w w' b (o + i) T us
  | [], i, o, w, cs, h, hn, h1 => ⟨w, rfl, rfl, rfl, rfl, rfl, fun _ _ => rfl, fun cs' h' => ⟨cs', h', rfl, fun j => by rw [if_neg (by simp only [List.length_nil]; omega)]⟩⟩
  | u :: us, i, o, w, cs, h, hn, h1 => by
    simp only [List.length_cons] at hn
    have s1 := run_storeCell (P := P) h (show o + i < cs.size by omega) (h1 u (by simp))
    have S := setCell_stored (v := u) h (show o + i < cs.size by omega)
    obtain ⟨cs1, hc1, hs1, hg1⟩ := S.here cs h
    obtain ⟨w', hr, S'⟩ := run_storeCells (P := P) us (i + 1) o (w.setCell ⟨b, o + i, none⟩ u) cs1 hc1 (by omega) (fun u' hu' => h1 u' (by simp [hu']))
    refine ⟨w', by simp only [storeCells, add_spot, Sem.run_bind, s1, Result.andThen_ok, hr], S'.os.trans S.os, S'.tape.trans S.tape, S'.output.trans S.output, S'.size.trans S.size, fun j hj => (S'.other j hj).trans (S.other j hj), fun cs0 h0 => ?_⟩
    rw [h] at h0; simp only [Option.some.injEq, Obj.cells.injEq, and_true] at h0; subst h0
    obtain ⟨cs2, hc2, hs2, hg2⟩ := S'.here cs1 hc1
    refine ⟨cs2, hc2, hs2.trans hs1, fun j => ?_⟩
    rw [hg2 j]
    simp only [List.length_cons]
    by_cases h1 : o + (i + 1) ≤ j ∧ j < o + (i + 1) + us.length
    · rw [if_pos h1, if_pos (by omega), show j - (o + i) = (j - (o + (i + 1))) + 1 by omega]; simp
    · rw [if_neg h1, hg1 j]
      by_cases h2 : o + i ≤ j ∧ j < o + i + 1
      · rw [if_pos (by simpa using h2), if_pos (by omega), show j - (o + i) = 0 by omega]; rfl
      · rw [if_neg (by simpa using h2), if_neg (by omega)]

section
variable {C : Cfg} {s : SS} {ρ : Operand → Value} {w : World} {d : Option Tmp} {t u ty : TypeId} {p : String} {af : Array Edge} {g : Option (Nat × Bool)} {x y : Operand}

theorem load_ok (hs : EvOk s ρ) (hm : MemS s w) : ResOk C s w ((execOp ρ { dst := d, op := .load t x, type := ty, pos := p, after := af, guard := g }).run C.P w) (resOf C s d (.load t x)) := by
  simp only [resOf]
  split
  · rename_i k o hx
    split
    · rename_i e he
      split
      · rename_i q hq
        obtain ⟨vs, hvs, hh⟩ := hm k e he
        have ex := hs.get (x := x) (v := .pointer (some ⟨e.b, o, none⟩)) (by rw [hx]; simp [SV.toV, PV.toV, Lf.toV, he])
        obtain ⟨dd, hd⟩ := partOf_hasT hq
        obtain ⟨v, h1, h2⟩ := run_loadVar hq hvs hh hd
        exact .mk (by simp only [execOp, ex, Instr.loadAt, Instr.sureAddr, Sem.run_bind, Sem.run_pure, h2, Result.andThen_ok]) h1
      · trivial
    · trivial
  · trivial

theorem store_ok (hs : EvOk s ρ) (hm : MemS s w) : ResOk C s w ((execOp ρ { dst := d, op := .store t x y, type := ty, pos := p, after := af, guard := g }).run C.P w) (resOf C s d (.store t x y)) := by
  simp only [resOf]
  split
  · rename_i k o q hx hy
    split
    · rename_i e he
      cases hb : (hasT C.P t && (Nat.beq q.cells.length (C.P.cellsOf t) && Nat.ble (o + q.cells.length) e.cells.length)) <;> simp only [cond_true, cond_false]
      · trivial
      simp only [Bool.and_eq_true] at hb
      obtain ⟨dd, hd⟩ := hasT_spec hb.1
      have h1 := Nat.eq_of_beq_eq_true hb.2.1
      have h2 := Nat.le_of_ble_eq_true hb.2.2
      intro e' he' hone hcs
      rw [he] at he'; obtain rfl := Option.some.inj he'
      obtain ⟨cs, hh, hsz⟩ := hcs
      have ex := hs.get (x := x) (v := .pointer (some ⟨e.b, o, none⟩)) (by rw [hx]; simp [SV.toV, PV.toV, Lf.toV, he])
      obtain ⟨v, hv, ey⟩ := hs y (by rw [hy]; simp)
      obtain ⟨us, hus, hc⟩ := cells_of_pv (q := q) (v := v) (by rw [hy] at hv; exact hv) hone
      have hl := toVs_length hus
      obtain ⟨w', hr, S⟩ := run_storeCells (P := C.P) us 0 o w cs hh (by omega) (toVs_one hus hone)
      refine ⟨us, w', hus, ?_, S, by omega⟩
      simp only [execOp, ex, ey, Instr.storeAt, Instr.sureAddr, storeVar, Sem.run_bind, Sem.run_pure, cellsOf_run hd, Result.andThen_ok, hc]
      rw [if_neg (by simp; omega)]
      simp only [Result.andThen_ok, hr]
    · trivial
  · trivial

theorem alloc_ok (_hs : EvOk s ρ) : ResOk C s w ((execOp ρ { dst := d, op := .alloc t, type := ty, pos := p, after := af, guard := g }).run C.P w) (resOf C s d (.alloc t)) := by
  simp only [resOf, zeroLfs]
  cases escD C d <;> simp only [cond_true, cond_false]
  case true => trivial
  cases hi : C.P.info? t with
  | none => trivial
  | some i =>
    cases hz : i.zero with
    | none => simp only [hz]; trivial
    | some z =>
      simp only [hz]
      intro hone
      refine ⟨z.cells.toList, toVs_map_ofCell _, ?_⟩
      have h1 : (zeroValue t).run C.P w = .ok z w := by simp [zeroValue, typeInfo, program, Sem.run, hi, hz, go_sem]
      simp only [execOp, Instr.alloc, Sem.run_bind, Sem.run_pure, h1, Result.andThen_ok, newVar, newRow, newObj, Sem.run, Array.toArray_toList]

theorem box_ok (hs : EvOk s ρ) : ResOk C s w ((execOp ρ { dst := d, op := .box t x, type := ty, pos := p, after := af, guard := g }).run C.P w) (resOf C s d (.box t x)) := by
  simp only [resOf]
  cases escD C d <;> simp only [cond_true, cond_false]
  case true => trivial
  split
  · rename_i q hx
    intro hone
    obtain ⟨v, h2, h3⟩ := hs x (by rw [hx]; simp)
    obtain ⟨us, hus, hc⟩ := cells_of_pv (q := q) (v := v) (by rw [hx] at h2; exact h2) hone
    refine ⟨us, hus, ?_⟩
    simp only [execOp, h3, hc, Instr.box, Sem.run_bind, Sem.run_pure, Result.andThen_ok, newVar, newRow, newObj, Sem.run]
  · trivial


theorem hasL_spec {L : Nat → Option LocE} {k : Nat} (h : hasL L k = true) : ∃ e, L k = some e := by
  unfold hasL at h
  split at h
  · exact ⟨_, ‹_›⟩
  · simp at h

theorem fieldPlace_run {P : Program} {f : Field} {b o : Nat} {dd : TypeDesc} (hd : P.underlying f.type = some dd) (h0 : 0 < P.cellsOf f.type) : (fieldPlace ⟨b, o, none⟩ f).run P w = .ok ⟨b, o + f.offset, none⟩ w := by
  simp only [fieldPlace, Sem.run_bind, cellsOf_run hd, Result.andThen_ok]
  rw [if_neg (by omega), add_spot]
  rfl

theorem fieldAddr_ok (hs : EvOk s ρ) {f : Nat} : ResOk C s w ((execOp ρ { dst := d, op := .fieldAddr t x f, type := ty, pos := p, after := af, guard := g }).run C.P w) (resOf C s d (.fieldAddr t x f)) := by
  simp only [resOf]
  split
  · rename_i fs l hd hx
    split
    · rename_i fl hf
      cases hb : (hasT C.P fl.type && Nat.blt 0 (C.P.cellsOf fl.type)) <;> simp only [cond_true, cond_false]
      · trivial
      simp only [Bool.and_eq_true] at hb
      obtain ⟨dd, hdd⟩ := hasT_spec hb.1
      have h0 : 0 < C.P.cellsOf fl.type := by simpa [Nat.blt_eq] using hb.2
      split
      · rename_i l' hl
        have R : ∀ b o, ρ x = .pointer (some ⟨b, o, none⟩) → (execOp ρ { dst := d, op := .fieldAddr t x f, type := ty, pos := p, after := af, guard := g }).run C.P w = .ok (.value (.pointer (some ⟨b, o + fl.offset, none⟩))) w := fun b o h => by
          simp only [execOp, h, Instr.fieldAt, Sem.run_bind, Sem.run_pure, run_underlying hd, hf, Result.andThen_ok, Instr.sureAddr, fieldPlace_run hdd h0]
        cases l <;> simp only [plusOff, Option.some.injEq, reduceCtorEq] at hl
        · rename_i b o
          subst hl
          exact .mk (R b o (hs.get (by rw [hx]; rfl))) rfl
        · rename_i k o
          cases hk : hasL s.L k <;> simp only [hk, cond_true, cond_false, Option.some.injEq, reduceCtorEq] at hl
          obtain ⟨e, he⟩ := hasL_spec hk
          subst hl
          exact .mk (R e.b o (hs.get (by rw [hx]; simp [SV.toV, PV.toV, Lf.toV, he]))) (by simp [SV.toV, PV.toV, Lf.toV, he])
      · trivial
    · trivial
  · trivial

theorem nilCheck_ok (hs : EvOk s ρ) : ResOk C s w ((execOp ρ { dst := d, op := .nilCheck x, type := ty, pos := p, after := af, guard := g }).run C.P w) (resOf C s d (.nilCheck x)) := by
  simp only [resOf]
  split
  · rename_i a hx
    intro b o e _
    subst e
    exact .mk (by have := hs.get (x := x) (v := .pointer (some ⟨b, o, none⟩)) (by rw [hx]; rfl); simp only [execOp, this, Sem.run_pure]) rfl
  · rename_i l hnp hx
    clear hnp
    cases hb : l.isPtr s.L <;> simp only [cond_true, cond_false]
    · trivial
    cases l <;> simp only [Lf.isPtr, Bool.false_eq_true] at hb
    case ptr b o => exact .mk (by have := hs.get (x := x) (v := .pointer (some ⟨b, o, none⟩)) (by rw [hx]; rfl); simp only [execOp, this, Sem.run_pure]) rfl
    case loc k o =>
      obtain ⟨e, he⟩ := hasL_spec hb
      have h1 : (SV.pv (.one (.loc k o))).toV s.L = some (.pointer (some ⟨e.b, o, none⟩)) := by simp [SV.toV, PV.toV, Lf.toV, he]
      exact .mk (by have := hs.get (x := x) (by rw [hx]; exact h1); simp only [execOp, this, Sem.run_pure]) h1
    case map r => exact .mk (by have := hs.get (x := x) (v := .map (some r)) (by rw [hx]; rfl); simp only [execOp, this, Sem.run_pure]) rfl
    case fn f a b _ => exact .mk (by have := hs.get (x := x) (v := .func (.func f) a.toArray b.toArray) (by rw [hx]; rfl); simp only [execOp, this, Sem.run_pure]) rfl
    case fv f a b => exact .mk (by have := hs.get (x := x) (v := .func (.func f) a.toArray b.toArray) (by rw [hx]; rfl); simp only [execOp, this, Sem.run_pure]) rfl
  · trivial

theorem pv_part {P : Program} {L : Nat → Option LocE} {o : Nat} {cs : List Lf} {q : PV} {v : Value} (hp : partOf P t o cs = some q) (hv : (PV.agg cs).toV L = some v) :
    ∃ vs u, v = .agg vs ∧ q.toV L = some u ∧ (part t vs o).run P w = .ok u w := by
  simp only [PV.toV] at hv
  split at hv
  · rename_i vs hvs
    simp at hv; subst hv
    obtain ⟨dd, hd⟩ := partOf_hasT hp
    obtain ⟨u, h1, h2, h3⟩ := partOf_spec hp hvs
    refine ⟨_, u, rfl, h1, ?_⟩
    unfold part
    simp only [Sem.run_bind, isAgg_run hd, Result.andThen_ok]
    cases ha : isAggB P t
    · have := h3 ha
      simp only [Bool.false_eq_true, if_false, List.getElem?_toArray, this, Sem.run_pure]
    · obtain ⟨rfl, hle⟩ := h2 ha
      simp only [if_true, Sem.run_bind, cellsOf_run hd, Result.andThen_ok, Sem.run_pure]
  · simp at hv

theorem field_ok (hs : EvOk s ρ) {f : Nat} : ResOk C s w ((execOp ρ { dst := d, op := .field t x f, type := ty, pos := p, after := af, guard := g }).run C.P w) (resOf C s d (.field t x f)) := by
  simp only [resOf]
  split
  · rename_i fs cs hd hx
    split
    · rename_i fl hf
      cases hok : okLfs s.L cs <;> simp only [cond_true, cond_false]
      · trivial
      split
      · rename_i q hq
        obtain ⟨vs', hvs'⟩ := okLfs_spec hok
        cases hv : (PV.agg cs).toV s.L with
        | none => simp [PV.toV, hvs'] at hv
        | some v =>
          obtain ⟨vs, u, rfl, h1, h2⟩ := pv_part (w := w) hq hv
          have ex := hs.get (x := x) (by rw [hx]; exact hv)
          exact .mk (by simp only [execOp, ex, Instr.field, asAgg, Sem.run_bind, Sem.run_pure, run_underlying hd, hf, Result.andThen_ok, h2]) h1
      · trivial
    · trivial
  · trivial

theorem extract_ok (hs : EvOk s ρ) {i : Nat} : ResOk C s w ((execOp ρ { dst := d, op := .extract x i, type := ty, pos := p, after := af, guard := g }).run C.P w) (resOf C s d (.extract x i)) := by
  simp only [resOf]
  split
  · rename_i vs hx
    cases hok : okPVs s.L vs <;> simp only [cond_true, cond_false]
    · trivial
    split
    · rename_i v r hv
      obtain ⟨us, hus⟩ := okPVs_spec hok
      obtain ⟨u, h1, h2⟩ := pvs_drop i hus hv
      have ex := hs.get (x := x) (v := .tuple us.toArray) (by rw [hx]; simp [SV.toV, hus])
      exact .mk (v := u) (by simp only [execOp, ex, Instr.extract, List.getElem?_toArray, h2, Sem.run_bind, Sem.run_pure, Result.andThen_ok]) h1
    · trivial
  · trivial

theorem convert_ok (hs : EvOk s ρ) {st : TypeId} : ResOk C s w ((execOp ρ { dst := d, op := .convert st t x, type := ty, pos := p, after := af, guard := g }).run C.P w) (resOf C s d (.convert st t x)) := by
  simp only [resOf]
  split
  · rename_i k' k k'' n h1 h2 hx
    have ex := hs.int hx
    exact int_ok (by simp only [execOp, ex, convert, Sem.run_bind, Sem.run_pure, run_underlying h1, run_underlying h2, Result.andThen_ok, Conv.intToInt])
  · trivial

theorem index_run {P : Program} {b o n : Nat} {e : TypeId} {k : IntKind} {j : Int} {c : Nat} {dd : TypeDesc} (he : P.underlying e = some dd) (hd : P.underlying t = some (.slice e)) (h0 : 0 ≤ j) (h1 : j < n) :
    (Instr.indexAt t (.slice (some ⟨b, o, none⟩) n c) (.int k j)).run P w = .ok (.pointer (some ⟨b, o + j.toNat * P.cellsOf e, none⟩)) w := by
  simp only [Instr.indexAt, asIntOf, Sem.run_bind, Sem.run_pure, run_underlying hd, Result.andThen_ok]
  rw [if_pos ⟨h0, h1⟩]
  simp only [Sem.run_bind, Sem.run_pure, cellsOf_run he, Result.andThen_ok, add_spot]
theorem index_run_arr {P : Program} {b o n : Nat} {e : TypeId} {k : IntKind} {j : Int} {dd : TypeDesc} (he : P.underlying e = some dd) (hd : P.underlying t = some (.array n e)) (h0 : 0 ≤ j) (h1 : j < n) :
    (Instr.indexAt t (.pointer (some ⟨b, o, none⟩)) (.int k j)).run P w = .ok (.pointer (some ⟨b, o + j.toNat * P.cellsOf e, none⟩)) w := by
  simp only [Instr.indexAt, asIntOf, Instr.sureAddr, Sem.run_bind, Sem.run_pure, run_underlying hd, Result.andThen_ok]
  rw [if_pos ⟨h0, h1⟩]
  simp only [Sem.run_bind, Sem.run_pure, cellsOf_run he, Result.andThen_ok, add_spot]

theorem intsK_spec {L : Nat → Option LocE} {k : IntKind} : ∀ {cs : List Lf} {l : List Int}, intsK k cs = some l → toVs L cs = some (l.map (Value.int k)) ∧ l.length = cs.length
  | [], l, h => by simp only [intsK, Option.some.injEq] at h; subst h; exact ⟨rfl, rfl⟩
  | .int k' x :: r, l, h => by
    simp only [intsK] at h
    cases hk : kEq k k' <;> simp only [hk, cond_true, cond_false] at h
    · cases h
    obtain rfl := kEq_eq hk
    split at h
    · rename_i xs hxs
      cases h
      obtain ⟨h1, h2⟩ := intsK_spec (L := L) hxs
      exact ⟨by simp [toVs, h1, Lf.toV], by simp [h2]⟩
    · cases h
theorem index_val {P : Program} {n : Nat} {e : TypeId} {k k' : IntKind} {j : Int} {l : List Int} {dd : TypeDesc} (he : P.underlying e = some dd) (ha : isAggB P e = false) (hc : P.cellsOf e = 1) (hd : P.underlying t = some (.array n e)) (hl : l.length = n) (h : 0 ≤ j ∧ j < n) :
    (Instr.index t (.agg (l.map (Value.int k)).toArray) (.int k' j)).run P w = .ok (.int k (nthI l j)) w := by
  have hx : (l.map (Value.int k)).toArray[j.toNat * 1]? = some (.int k (nthI l j)) := by
    rw [Nat.mul_one, List.getElem?_toArray, List.getElem?_map]
    have : j.toNat < l.length := by omega
    simp [nthI, List.getD, List.getElem?_eq_getElem this]
  simp only [Instr.index, asIntOf, Sem.run_bind, Sem.run_pure, run_underlying hd, Result.andThen_ok]
  rw [if_pos h]
  simp only [Sem.run_bind, cellsOf_run he, Result.andThen_ok, hc]
  unfold part
  simp only [Sem.run_bind, isAgg_run he, Result.andThen_ok, ha, Bool.false_eq_true, if_false, hx, Sem.run_pure]
theorem indexV_ok (hs : EvOk s ρ) : ResOk C s w ((execOp ρ { dst := d, op := .index t x y, type := ty, pos := p, after := af, guard := g }).run C.P w) (resOf C s d (.index t x y)) := by
  simp only [resOf]
  split
  · rename_i n e cs k' j hd hx hy
    cases hb : (hasT C.P e && (!(isAggB C.P e) && (Nat.beq (C.P.cellsOf e) 1 && Nat.beq cs.length n))) <;> simp only [cond_true, cond_false]
    · trivial
    simp only [Bool.and_eq_true, Bool.not_eq_true', Nat.beq_eq] at hb
    obtain ⟨hT, hA, hC, hN⟩ := hb
    obtain ⟨dd, hdd⟩ := hasT_spec hT
    split
    · rename_i k z r
      split
      · rename_i l hl
        have hsp := intsK_spec (L := s.L) hl
        intro hj
        have h1 := hsp.1
        have h2 : l.length = n := hsp.2.trans hN
        have ex := hs.get (x := x) (v := .agg (l.map (Value.int k)).toArray) (by rw [hx]; simp only [SV.toV, PV.toV, h1])
        have ey := hs.int hy
        exact .mk (by simp only [execOp, ex, ey, Sem.run_bind, index_val hdd hA hC hd h2 hj, Result.andThen_ok, Sem.run_pure]) rfl
      · trivial
    · trivial
  · trivial

theorem indexAddr_ok (hs : EvOk s ρ) : ResOk C s w ((execOp ρ { dst := d, op := .indexAddr t x y, type := ty, pos := p, after := af, guard := g }).run C.P w) (resOf C s d (.indexAddr t x y)) := by
  simp only [resOf]
  split
  · rename_i e a n c k j hd hx hy
    cases he : hasT C.P e <;> simp only [Bool.not_true, Bool.not_false, cond_true, cond_false]
    · trivial
    obtain ⟨dd, hdd⟩ := hasT_spec he
    intro b o ha hj
    subst ha
    have ex := hs.get (x := x) (v := .slice (some ⟨b, o, none⟩) n c) (by rw [hx]; rfl)
    have ey := hs.int hy
    exact .mk (by simp only [execOp, ex, ey, Sem.run_bind, index_run hdd hd hj.1 hj.2, Result.andThen_ok, Sem.run_pure]) rfl
  · rename_i n e b o k j hd hx hy
    cases he : hasT C.P e <;> simp only [Bool.not_true, Bool.not_false, cond_true, cond_false]
    · trivial
    obtain ⟨dd, hdd⟩ := hasT_spec he
    intro hj
    have ex := hs.get (x := x) (v := .pointer (some ⟨b, o, none⟩)) (by rw [hx]; rfl)
    have ey := hs.int hy
    exact .mk (by simp only [execOp, ex, ey, Sem.run_bind, index_run_arr hdd hd hj.1 hj.2, Result.andThen_ok, Sem.run_pure]) rfl
  · rename_i n e key o k j hd hx hy
    cases hb : (Nat.blt j n && (hasT C.P e && hasL s.L key)) <;> simp only [cond_true, cond_false]
    · trivial
    simp only [Bool.and_eq_true] at hb
    obtain ⟨dd, hdd⟩ := hasT_spec hb.2.1
    obtain ⟨le, hle⟩ := hasL_spec hb.2.2
    have hj : j < n := by simpa [Nat.blt_eq] using hb.1
    have ex := hs.get (x := x) (v := .pointer (some ⟨le.b, o, none⟩)) (by rw [hx]; simp [SV.toV, PV.toV, Lf.toV, hle])
    have ey := hs.int hy
    refine .mk (v := .pointer (some ⟨le.b, o + j * C.P.cellsOf e, none⟩)) ?_ (by simp [SV.toV, PV.toV, Lf.toV, hle])
    have R := index_run_arr (P := C.P) (w := w) (t := t) (b := le.b) (o := o) (k := k) (j := Int.ofNat j) hdd hd (Int.natCast_nonneg j) (Int.ofNat_lt.2 hj)
    simp only [execOp, ex, ey, Sem.run_bind]
    rw [R]; simp
  · trivial
end

theorem setAt_length {α : Type} : ∀ (cs : List α) (o : Nat) (vs : List α), (setAt cs o vs).length = cs.length
  | cs, o, [] => by cases cs <;> cases o <;> simp [setAt]
  | [], o, v :: vs => by cases o <;> simp [setAt]
  | c :: cs, 0, v :: vs => by simp [setAt, setAt_length cs 0 vs]
  | c :: cs, o + 1, v :: vs => by simp [setAt, setAt_length cs o (v :: vs)]

theorem setAt_get {α : Type} : ∀ (cs : List α) (o : Nat) (vs : List α) (i : Nat), o + vs.length ≤ cs.length → (setAt cs o vs)[i]? = if o ≤ i ∧ i < o + vs.length then vs[i - o]? else cs[i]?
  | cs, o, [], i, h => by rw [if_neg (by simp only [List.length_nil]; omega)]; cases cs <;> cases o <;> simp [setAt]
  | [], o, v :: vs, i, h => by simp at h
  | c :: cs, 0, v :: vs, i, h => by
    cases i with
    | zero => simp [setAt]
    | succ i =>
      have := setAt_get cs 0 vs i (by simp at h ⊢; omega)
      simp only [setAt, List.getElem?_cons_succ, this, List.length_cons, Nat.zero_le, true_and, Nat.zero_add, Nat.sub_zero, Nat.add_lt_add_iff_right]
  | c :: cs, o + 1, v :: vs, i, h => by
    cases i with
    | zero => simp [setAt]
    | succ i =>
      have := setAt_get cs o (v :: vs) i (by simp at h ⊢; omega)
      simp only [setAt, List.getElem?_cons_succ, this, Nat.add_le_add_iff_right, Nat.add_sub_add_right]
      congr 1
      simp only [eq_iff_iff]; constructor <;> (intro ⟨h1, h2⟩; exact ⟨h1, by omega⟩)

theorem toVs_setAt {L : Nat → Option LocE} : ∀ {cs : List Lf} {vs : List Value} {ps : List Lf} {us : List Value} (o : Nat), toVs L cs = some vs → toVs L ps = some us → toVs L (setAt cs o ps) = some (setAt vs o us)
  | cs, vs, [], us, o, h, hp => by
    simp [toVs] at hp; subst hp
    cases cs <;> cases o <;> (simp only [setAt]; rw [h]) <;> cases vs <;> simp [setAt]
  | [], vs, q :: ps, us, o, h, hp => by
    simp [toVs] at h; subst h
    simp only [toVs] at hp
    split at hp <;> simp at hp
    subst hp
    cases o <;> simp [setAt, toVs]
  | c :: cs, vs, q :: ps, us, o, h, hp => by
    simp only [toVs] at h
    split at h <;> simp at h
    rename_i v vs' hv hvs
    subst h
    have hp' := hp
    simp only [toVs] at hp
    split at hp <;> simp at hp
    rename_i u us' hu hus
    subst hp
    cases o with
    | zero => simp [setAt, toVs, hu, toVs_setAt 0 hvs hus]
    | succ o => simp [setAt, toVs, hv, toVs_setAt o hvs hp']

theorem fold_setAt (off : Nat) : ∀ (vs : List Value) (k : Nat) (cells : Array Value), off + k + vs.length ≤ cells.size →
    ((vs.zipIdx k).foldl (fun (cs : Array Value) (x : Value × Nat) => cs.setIfInBounds (off + x.2) x.1) cells).toList = setAt cells.toList (off + k) vs
  | [], k, cells, h => by
    cases hc : cells.toList <;> cases hk : off + k <;> simp [setAt, hc]
  | v :: vs, k, cells, h => by
    simp only [List.zipIdx_cons, List.foldl_cons]
    rw [fold_setAt off vs (k + 1) _ (by simp at h ⊢; omega)]
    apply List.ext_getElem?
    intro i
    simp only [List.length_cons] at h
    rw [setAt_get _ _ _ _ (by simp; omega), setAt_get _ _ _ _ (by simp; omega)]
    simp only [List.length_cons, Array.getElem?_toList]
    by_cases h1 : off + (k + 1) ≤ i ∧ i < off + (k + 1) + vs.length
    · rw [if_pos h1, if_pos (by omega), show i - (off + k) = (i - (off + (k + 1))) + 1 by omega]; simp
    · rw [if_neg h1]
      by_cases h2 : i = off + k
      · subst h2
        rw [if_pos (by omega)]
        simp [show off + k < cells.size by omega]
      · rw [if_neg (by omega), Array.getElem?_setIfInBounds_ne (fun e => h2 e.symm)]

section
variable {C : Cfg} {s : SS} {ρ : Operand → Value} {w : World} {d : Option Tmp} {t u ty : TypeId} {p : String} {af : Array Edge} {g : Option (Nat × Bool)} {x y : Operand}

theorem fill_spec (hs : EvOk s ρ) {place : Nat → Option (Nat × Nat)} : ∀ {ps : List (Nat × Operand)} {cs rs : List Lf} {vs : List Value}, fillLf s.L place s.ev cs ps = some rs → toVs s.L cs = some vs →
    ∃ us, toVs s.L rs = some us ∧ Instr.fill place vs.toArray (ps.map fun (i, x) => (i, ρ x)) = some us.toArray
  | [], cs, rs, vs, h, hv => by
    simp [fillLf] at h; subst h
    exact ⟨vs, hv, rfl⟩
  | (i, x) :: ps, cs, rs, vs, h, hv => by
    simp only [fillLf] at h
    split at h
    · rename_i off size q hp hq
      cases hb : (noVals q.cells && (okLfs s.L q.cells && (Nat.beq q.cells.length size && Nat.ble (off + size) cs.length))) <;> simp only [hb, cond_true, cond_false, reduceCtorEq] at h
      simp only [Bool.and_eq_true] at hb
      have h0 := noVals_spec hb.1
      obtain ⟨ws, hws⟩ := okLfs_spec hb.2.1
      have h1 := Nat.eq_of_beq_eq_true hb.2.2.1
      have h2 := Nat.le_of_ble_eq_true hb.2.2.2
      obtain ⟨v, hv'⟩ : ∃ v, q.toV s.L = some v := by
        cases q with
        | one l => simp only [PV.cells, toVs] at hws; split at hws <;> simp at hws; exact ⟨_, ‹_›⟩
        | agg cs => exact ⟨_, by simp only [PV.toV, show toVs s.L cs = some ws from hws]; rfl⟩
      have ex := hs.get (x := x) (v := v) (by rw [hq]; exact hv')
      obtain ⟨us', hus', hc⟩ := cells_of_pv hv' h0
      rw [hws] at hus'; obtain rfl := Option.some.inj hus'
      have hl := toVs_length hws
      have hl2 := toVs_length hv
      obtain ⟨us, hu1, hu2⟩ := fill_spec hs h (toVs_setAt off hv hws)
      refine ⟨us, hu1, ?_⟩
      simp only [List.map_cons, Instr.fill, hp, ex, hc]
      rw [if_neg (by simp; omega)]
      rw [← hu2]
      congr 1
      have := fold_setAt off ws 0 vs.toArray (by simp; omega)
      apply Array.ext'
      simpa using this
    · simp at h

theorem run_mapM_places {P : Program} : ∀ (fs : List Field), fs.all (fun f => hasT P f.type) = true →
    (fs.mapM fun f => (do pure (f.offset, ← sizeOf f.type) : Sem (Nat × Nat))).run P w = .ok (fs.map fun f => (f.offset, P.cellsOf f.type)) w
  | [], _ => by simp [Sem.run_pure]
  | f :: fs, h => by
    simp only [List.all_cons, Bool.and_eq_true] at h
    obtain ⟨dd, hd⟩ := hasT_spec h.1
    simp only [List.mapM_cons, Sem.run_bind, cellsOf_run hd, Result.andThen_ok, Sem.run_pure, run_mapM_places fs h.2, List.map_cons]

theorem zero_run {P : Program} {z : List Lf} (h : zeroLfs P t = some z) : ∃ v, (zeroValue t).run P w = .ok v w ∧ z = v.cells.toList.map ofCell ∧ ∃ i, P.info? t = some i ∧ i.zero = some v := by
  unfold zeroLfs at h
  split at h
  · rename_i i hi
    split at h
    · rename_i v hz
      simp at h
      exact ⟨v, by simp [zeroValue, typeInfo, program, Sem.run, hi, hz, go_sem], h.symm, i, hi, hz⟩
    · simp at h
  · simp at h

theorem build_ok (hs : EvOk s ρ) {ps : Array (Nat × Operand)} : ResOk C s w ((execOp ρ { dst := d, op := .build t ps, type := ty, pos := p, after := af, guard := g }).run C.P w) (resOf C s d (.build t ps)) := by
  simp only [resOf, buildRes]
  split
  · rename_i z fs hz hd
    cases hall : fs.toList.all (fun f => hasT C.P f.type) <;> simp only [cond_true, cond_false]
    · trivial
    split
    · rename_i cs hcs
      obtain ⟨v, hv, rfl, _⟩ := zero_run (w := w) hz
      obtain ⟨us, h1, h2⟩ := fill_spec hs hcs (toVs_map_ofCell v.cells.toList)
      refine .mk (v := .agg us.toArray) ?_ (by simp [SV.toV, PV.toV, h1])
      simp only [execOp, Instr.build, Sem.run_bind, hv, Result.andThen_ok, run_underlying hd]
      rw [Array.mapM_eq_mapM_toList]
      simp only [Sem.run_map, run_mapM_places fs.toList hall, Result.andThen_ok, Array.toList_map]
      have hp : (fun i : Nat => ((fs.toList.map fun f => (f.offset, C.P.cellsOf f.type)).toArray[i]? : Option (Nat × Nat))) = placesOf C.P fs := by
        funext i
        simp only [placesOf, List.getElem?_toArray, List.getElem?_map, Array.getElem?_toList]
        cases fs[i]? <;> rfl
      have h2' : Instr.fill (placesOf C.P fs) v.cells (ps.toList.map fun x => (x.1, ρ x.2)) = some us.toArray := by simpa using h2
      rw [hp, h2']
      simp only [Sem.run_pure, Result.andThen_ok]
    · trivial
  · rename_i z n e hz hd
    cases hall : hasT C.P e <;> simp only [cond_true, cond_false]
    · trivial
    obtain ⟨dd, hdd⟩ := hasT_spec hall
    split
    · rename_i cs hcs
      obtain ⟨v, hv, rfl, _⟩ := zero_run (w := w) hz
      obtain ⟨us, h1, h2⟩ := fill_spec hs hcs (toVs_map_ofCell v.cells.toList)
      refine .mk (v := .agg us.toArray) ?_ (by simp [SV.toV, PV.toV, h1])
      simp only [execOp, Instr.build, Sem.run_bind, hv, Result.andThen_ok, run_underlying hd, cellsOf_run hdd]
      have h2' : Instr.fill (fun i => some (i * C.P.cellsOf e, C.P.cellsOf e)) v.cells (ps.toList.map fun x => (x.1, ρ x.2)) = some us.toArray := by simpa using h2
      simp only [Array.toList_map, h2']
      simp only [Sem.run_pure, Result.andThen_ok]
    · trivial
  · trivial

def repV (z : List Value) : Nat → List Value
  | 0 => []
  | n + 1 => z ++ repV z n
theorem repLf_map (z : List Value) : ∀ n, repLf (z.map ofCell) n = (repV z n).map ofCell
  | 0 => rfl
  | n + 1 => by simp [repLf, repV, repLf_map z n]
theorem repV_length (z : List Value) : ∀ n, (repV z n).length = n * z.length
  | 0 => by simp [repV]
  | n + 1 => by simp [repV, repV_length z n, Nat.succ_mul, Nat.add_comm]
theorem repV_get (z : List Value) : ∀ (n i : Nat), i < n * z.length → (repV z n)[i]? = z[i % z.length]?
  | 0, i, h => by simp at h
  | n + 1, i, h => by
    rw [repV, List.getElem?_append]
    by_cases hi : i < z.length
    · rw [if_pos hi, Nat.mod_eq_of_lt hi]
    · rw [if_neg hi, repV_get z n (i - z.length) (by rw [Nat.succ_mul] at h; omega)]
      rw [Nat.mod_eq_sub_mod (Nat.le_of_not_lt hi)]
theorem range_rep (z : Array Value) (n m : Nat) (h : m = n * z.size) : (Array.range m).map (fun i => z[i % z.size]!) = (repV z.toList n).toArray := by
  subst h
  apply Array.ext_getElem?
  intro i
  by_cases hi : i < n * z.size
  · have hz : 0 < z.size := by rcases Nat.eq_zero_or_pos z.size with h | h; simp [h] at hi; exact h
    have hm := Nat.mod_lt i hz
    have := repV_get z.toList n i (by simpa using hi)
    simp only [List.getElem?_toArray, this]
    simp [hi, hm]
  · rw [Array.getElem?_eq_none (by simpa using by omega), Array.getElem?_eq_none (by simp [repV_length]; omega)]

theorem buildSlice_ok (hs : EvOk s ρ) {n : Nat} {ps : Array (Nat × Operand)} : ResOk C s w ((execOp ρ { dst := d, op := .buildSlice t n ps, type := ty, pos := p, after := af, guard := g }).run C.P w) (resOf C s d (.buildSlice t n ps)) := by
  simp only [resOf, sliceRes]
  cases escD C d <;> simp only [cond_true, cond_false]
  case true => trivial
  split
  · rename_i e hd
    split
    · rename_i z hz
      cases hb : (hasT C.P e && (Nat.beq z.length (C.P.cellsOf e) && Nat.ble (n * C.P.cellsOf e) 1024)) <;> simp only [cond_true, cond_false]
      · trivial
      simp only [Bool.and_eq_true] at hb
      obtain ⟨dd, hdd⟩ := hasT_spec hb.1
      have h1 := Nat.eq_of_beq_eq_true hb.2.1
      have h2 := Nat.le_of_ble_eq_true hb.2.2
      split
      · rename_i cs hcs
        obtain ⟨v, hv, rfl, _⟩ := zero_run (w := w) hz
        intro _
        rw [repLf_map] at hcs
        obtain ⟨us, h3, h4⟩ := fill_spec hs hcs (toVs_map_ofCell _)
        refine ⟨us, h3, ?_⟩
        have hl : v.cells.size = C.P.cellsOf e := by simpa using h1
        simp only [execOp, Instr.buildSlice, Sem.run_bind, run_underlying hd, cellsOf_run hdd, Result.andThen_ok]
        rw [if_neg (by omega)]
        have h4' : Instr.fill (fun i => some (i * C.P.cellsOf e, C.P.cellsOf e)) (repV v.cells.toList n).toArray (ps.toList.map fun x => (x.1, ρ x.2)) = some us.toArray := by simpa using h4
        by_cases h0 : n * C.P.cellsOf e = 0
        · have hr : repV v.cells.toList n = [] := List.length_eq_zero_iff.1 (by rw [repV_length]; simpa [hl] using h0)
          rw [hr] at h4'
          have hz : ∀ f : Nat → Value, (Array.range 0).map f = #[] := fun f => Array.eq_empty_of_size_eq_zero (by simp)
          simp only [Sem.run_bind, h0, if_true, Sem.run_pure, Result.andThen_ok, Array.toList_map, hz, h4', newRow, newObj, Sem.run_bind, Sem.run, Sem.run_pure, Result.andThen_ok]
        · simp only [Sem.run_bind, h0, if_false, hv, Sem.run_pure, Result.andThen_ok, Array.toList_map]
          rw [range_rep v.cells n (n * C.P.cellsOf e) (by rw [hl]), h4']
          simp only [newRow, newObj, Sem.run_bind, Sem.run, Sem.run_pure, Result.andThen_ok]
      · trivial
    · trivial
  · trivial

theorem len_ok (hs : EvOk s ρ) {args : Array Operand} {ats : Array TypeId} : ResOk C s w ((execOp ρ { dst := d, op := .call { callee := .builtin .len, args := args, argTypes := ats }, type := ty, pos := p, after := af, guard := g }).run C.P w) (lenRes C s ats args) := by
  unfold lenRes
  split
  · rename_i x t hx ht
    have hargs : args = #[x] := Array.toList_inj.1 (by simpa using hx)
    have hats : ats = #[t] := Array.toList_inj.1 (by simpa using ht)
    subst hargs; subst hats
    split
    · rename_i a n c hd hv
      have ex := hs.get (x := x) (v := .slice a n c) (by rw [hv]; rfl)
      exact .mk (v := .int .i64 n) (by simp [execOp, resolve, invoke, builtin, Builtin.len_, ex, run_underlying hd, Sem.run_pure, goInt]) rfl
    · rename_i k o n c hd hv
      cases hk : hasL s.L k <;> simp only [cond_true, cond_false]
      · trivial
      obtain ⟨e, he⟩ := hasL_spec hk
      have ex := hs.get (x := x) (v := .slice (some ⟨e.b, o, none⟩) n c) (by rw [hv]; simp [SV.toV, PV.toV, Lf.toV, he])
      exact .mk (v := .int .i64 n) (by simp [execOp, resolve, invoke, builtin, Builtin.len_, ex, run_underlying hd, Sem.run_pure, goInt]) rfl
    · rename_i b hd hv
      have ex := hs.get (x := x) (v := .string b) (by rw [hv]; rfl)
      exact .mk (v := .int .i64 b.size) (by simp [execOp, resolve, invoke, builtin, Builtin.len_, ex, run_underlying hd, Sem.run_pure, goInt]) rfl
    · trivial
  · trivial


theorem mm_spec (mx : Bool) (hs : EvOk s ρ) {k : IntKind} : ∀ {r : List Operand} {acc n : Int}, mm mx k acc (r.map s.ev) = some n →
    ((r.map ρ).foldlM (fun a b => if mx then Builtin.max2 a b else Builtin.min2 a b) (Value.int k acc)).run C.P w = .ok (.int k n) w
  | [], acc, n, h => by simp [mm] at h; subst h; rfl
  | x :: r, acc, n, h => by
    simp only [List.map_cons, mm] at h
    split at h
    · rename_i k' b hx
      cases hk : kEq k k' <;> simp only [hk, cond_true, cond_false, reduceCtorEq] at h
      obtain rfl := kEq_eq hk
      have ex := hs.int hx
      have ih := mm_spec mx hs (r := r) h
      simp only [List.map_cons, List.foldlM_cons, Sem.run_bind, ex]
      cases mx
      · simp only [Bool.false_eq_true, if_false, Builtin.min2, Sem.run_pure, Result.andThen_ok] at ih ⊢
        have : (if b < acc then b else acc) = min acc b := by omega
        rw [this]; simpa using ih
      · simp only [if_true, Builtin.max2, Sem.run_pure, Result.andThen_ok] at ih ⊢
        have : (if b > acc then b else acc) = max acc b := by omega
        rw [this]; simpa using ih
    · simp at h

theorem max_ok (hs : EvOk s ρ) {args : Array Operand} {ats : Array TypeId} : ResOk C s w ((execOp ρ { dst := d, op := .call { callee := .builtin .max, args := args, argTypes := ats }, type := ty, pos := p, after := af, guard := g }).run C.P w) (mmRes s true args.toList) := by
  unfold mmRes
  split
  · rename_i x r hx
    have hargs : args = (x :: r).toArray := by rw [← hx]
    subst hargs
    split
    · rename_i k a hv
      have ex := hs.int hv
      split
      · rename_i n hn
        have := mm_spec (C := C) (w := w) true hs hn
        simp only [if_true] at this
        exact .mk (v := .int k n) (by simp [execOp, resolve, invoke, builtin, Builtin.max_, ex]; rw [this]; rfl) rfl
      · trivial
    · trivial
  · trivial

theorem min_ok (hs : EvOk s ρ) {args : Array Operand} {ats : Array TypeId} : ResOk C s w ((execOp ρ { dst := d, op := .call { callee := .builtin .min, args := args, argTypes := ats }, type := ty, pos := p, after := af, guard := g }).run C.P w) (mmRes s false args.toList) := by
  unfold mmRes
  split
  · rename_i x r hx
    have hargs : args = (x :: r).toArray := by rw [← hx]
    subst hargs
    split
    · rename_i k a hv
      have ex := hs.int hv
      split
      · rename_i n hn
        have := mm_spec (C := C) (w := w) false hs hn
        simp only [Bool.false_eq_true, if_false] at this
        exact .mk (v := .int k n) (by simp [execOp, resolve, invoke, builtin, Builtin.min_, ex]; rw [this]; rfl) rfl
      · trivial
    · trivial
  · trivial

theorem evVs_spec (hs : EvOk s ρ) : ∀ {xs : List Operand} {vs : List Value}, evVs s xs = some vs → xs.map ρ = vs
  | [], vs, h => by simp [evVs] at h; subst h; rfl
  | x :: xs, vs, h => by
    simp only [evVs] at h
    split at h
    · rename_i v vs' hv hvs
      simp at h; subst h
      simp [hs.get hv, evVs_spec hs hvs]
    · simp at h

theorem makeFunc_ok (hs : EvOk s ρ) {f : FuncId} {first cap : Array Operand} : ResOk C s w ((execOp ρ { dst := d, op := .makeFunc (.func f) first cap, type := ty, pos := p, after := af, guard := g }).run C.P w) (resOf C s d (.makeFunc (.func f) first cap)) := by
  simp only [resOf]
  split
  · rename_i a b ha hb
    have h1 := evVs_spec hs ha
    have h2 := evVs_spec hs hb
    refine .mk (v := .func (.func f) a.toArray b.toArray) ?_ rfl
    have e1 : first.map ρ = a.toArray := by apply Array.ext'; simpa using h1
    have e2 : cap.map ρ = b.toArray := by apply Array.ext'; simpa using h2
    simp only [execOp, Instr.makeFunc, e1, e2, Sem.run_bind, Sem.run_pure, Result.andThen_ok]
  · trivial

theorem slice_run {P : Program} {e n : Nat} {de : TypeDesc} {t : TypeId} {b o : Nat} (ht : P.underlying t = some (.array n e)) (he : P.underlying e = some de) :
    (Instr.sliceAt t (.pointer (some ⟨b, o, none⟩)) none none none).run P w = .ok (.slice (some ⟨b, o, none⟩) n n) w := by
  have h1 : (underlying t).run P w = .ok (.array n e) w := run_underlying ht w
  simp only [Instr.sliceAt, Sem.run_bind, h1, Result.andThen_ok, Instr.sureAddr, Instr.sliceBounds, Sem.run_pure, cellsOf_run he]
  congr 2
  by_cases hn : n = 0 <;> simp [hn, Addr.add]

theorem run_bound {P : Program} {w : World} {k : IntKind} {i : Int} {y : Nat} {code : BoundsCode} (h : 0 ≤ i ∧ i ≤ (y : Int)) : (Instr.sliceBound (.int k i) y code).run P w = .ok i.toNat w := by
  simp only [Instr.sliceBound, asIntOf, Sem.run_bind, Sem.run_pure, Result.andThen_ok]
  rw [if_pos h, Sem.run_pure]
theorem run_bounds {P : Program} {w : World} {b : Bool} {n c : Nat} {s : SS} {ρ : Operand → Value} (hs : EvOk s ρ) {lo hi : Option Operand} {l h : Option Int} (hl : bndOf s lo = some l) (hh : bndOf s hi = some h) (hok : bndOk n c l h) :
    (Instr.sliceBounds b n c (lo.map ρ) (hi.map ρ) none).run P w = .ok ((lowOf l).toNat, highOf n h, c) w := by
  have hlo : ∀ m : Nat, 0 ≤ lowOf l → lowOf l ≤ (m : Int) → ∀ code, (match lo.map ρ with | some v => Instr.sliceBound v m code | none => pure 0 : Sem Nat).run P w = .ok (lowOf l).toNat w := by
    intro m h0 h1 code
    cases lo with
    | none => simp only [bndOf, Option.some.injEq] at hl; subst hl; rfl
    | some y =>
      simp only [bndOf] at hl
      split at hl
      · rename_i k i hv
        simp only [Option.some.injEq] at hl; subst hl
        rw [Option.map_some, hs.int hv]
        exact run_bound ⟨h0, h1⟩
      · cases hl
  cases hi with
  | none =>
    simp only [bndOf, Option.some.injEq] at hh; subst hh
    simp only [bndOk] at hok
    simp only [Instr.sliceBounds, Option.map_none, Sem.run_bind, Sem.run_pure, Result.andThen_ok]
    have := hlo n hok.1 hok.2 (if (none : Option Value).isSome = true then .slice3C else .sliceB)
    cases lo <;> simp_all [Option.map, Sem.run_pure, highOf]
  | some z =>
    simp only [bndOf] at hh
    split at hh
    · rename_i k i hv
      simp only [Option.some.injEq] at hh; subst hh
      simp only [bndOk] at hok
      have hb : ∀ code, (Instr.sliceBound (ρ z) c code).run P w = .ok i.toNat w := fun code => by rw [hs.int hv]; exact run_bound ⟨by omega, hok.2⟩
      have := hlo i.toNat hok.1.1 (by omega) (if (none : Option Value).isSome = true then .slice3C else .sliceB)
      simp only [Instr.sliceBounds, Option.map_some, Sem.run_bind, Sem.run_pure, Result.andThen_ok, hb]
      cases lo <;> simp_all [Option.map, Sem.run_pure, highOf]
    · cases hh
theorem sub_ok (hs : EvOk s ρ) {lo hi : Option Operand} : ResOk C s w ((execOp ρ { dst := d, op := .slice t x lo hi none, type := ty, pos := p, after := af, guard := g }).run C.P w) (subRes C s t x lo hi) := by
  unfold subRes
  split
  · rename_i l h e a n c hl hh ht hx
    cases hb : hasT C.P e <;> simp only [cond_true, cond_false]
    · trivial
    obtain ⟨de, hde⟩ := hasT_spec hb
    intro hok
    have ex := hs.get (x := x) (v := .slice a n c) (by rw [hx]; rfl)
    have h1 : (underlying t).run C.P w = .ok (.slice e) w := run_underlying ht w
    have h2 := run_bounds (P := C.P) (w := w) (b := true) hs hl hh hok
    refine .mk (v := .slice (subA a c (lowOf l).toNat (C.P.cellsOf e)) (highOf n h - (lowOf l).toNat) (c - (lowOf l).toNat)) ?_ rfl
    simp only [execOp, ex, Option.map_none, Instr.sliceAt, Instr.slice, Sem.run_bind, h1, h2, Result.andThen_ok, Sem.run_pure, cellsOf_run hde]
    rfl
  · rename_i l h b hl hh ht hx
    intro hok
    have ex := hs.get (x := x) (v := .string b) (by rw [hx]; rfl)
    have h1 : (underlying t).run C.P w = .ok .string w := run_underlying ht w
    have h2 := run_bounds (P := C.P) (w := w) (b := false) hs hl hh hok
    refine .mk (v := .string (b.extract (lowOf l).toNat (highOf b.size h))) ?_ rfl
    simp only [execOp, ex, Option.map_none, Instr.sliceAt, Instr.slice, Sem.run_bind, h1, Result.andThen_ok, Sem.run_pure, Option.isSome_none, Bool.false_eq_true, if_false, h2]
  · trivial

theorem slice_ok (hs : EvOk s ρ) {lo hi mx : Option Operand} : ResOk C s w ((execOp ρ { dst := d, op := .slice t x lo hi mx, type := ty, pos := p, after := af, guard := g }).run C.P w) (resOf C s d (.slice t x lo hi mx)) := by
  show ResOk C s w _ (fullRes C s t x lo hi mx)
  unfold fullRes
  split
  · split
    · rename_i n e k o ht hx
      cases hb : (hasT C.P e && hasL s.L k) <;> simp only [cond_true, cond_false]
      · trivial
      simp only [Bool.and_eq_true] at hb
      obtain ⟨de, hde⟩ := hasT_spec hb.1
      have hk := hb.2
      unfold hasL at hk
      split at hk
      · rename_i en hen
        have ex := hs.get (x := x) (v := .pointer (some ⟨en.b, o, none⟩)) (by rw [hx]; simp [SV.toV, PV.toV, Lf.toV, hen])
        exact .mk (v := .slice (some ⟨en.b, o, none⟩) n n) (by simp only [execOp, ex, Option.map_none, Sem.run_bind, slice_run ht hde, Result.andThen_ok, Sem.run_pure]) (by simp [SV.toV, PV.toV, Lf.toV, hen])
      · cases hk
    · rename_i n e b o ht hx
      cases hb : hasT C.P e <;> simp only [cond_true, cond_false]
      · trivial
      obtain ⟨de, hde⟩ := hasT_spec hb
      have ex := hs.get (x := x) (v := .pointer (some ⟨b, o, none⟩)) (by rw [hx]; rfl)
      exact .mk (v := .slice (some ⟨b, o, none⟩) n n) (by simp only [execOp, ex, Option.map_none, Sem.run_bind, slice_run ht hde, Result.andThen_ok, Sem.run_pure]) rfl
    · trivial
  · trivial
  · exact sub_ok hs

/-- EVERY PLAIN OPERATION DOES WHAT 'resOf' SAYS. -/
theorem plain_ok (hs : EvOk s ρ) (hm : MemS s w) (o : Oper) : ResOk C s w ((execOp ρ o).run C.P w) (resOf C s o.dst o.op) := by
  obtain ⟨d, op, ty, p, af, g⟩ := o
  cases op
  case move x => exact move_ok hs
  case assign x => exact assign_ok hs
  case pick c a b => exact pick_ok hs
  case alloc t => exact alloc_ok hs
  case box t x => exact box_ok hs
  case build t ps => exact build_ok hs
  case buildSlice t n ps => exact buildSlice_ok hs
  case load t x => exact load_ok hs hm
  case store t x y => exact store_ok hs hm
  case nilCheck x => exact nilCheck_ok hs
  case binOp op t x y u => exact bin_ok hs
  case unOp op t x => exact un_ok hs
  case convert st t x => exact convert_ok hs
  case fieldAddr t x f => exact fieldAddr_ok hs
  case field t x f => exact field_ok hs
  case extract x i => exact extract_ok hs
  case indexAddr t x i => exact indexAddr_ok hs
  case index t x i => exact indexV_ok hs
  case slice t x lo hi mx => exact slice_ok hs
  case makeFunc fn first cap => cases fn <;> first | exact makeFunc_ok hs | trivial
  case call c =>
    obtain ⟨callee, args, ats⟩ := c
    cases callee <;> try trivial
    rename_i b
    cases b <;> first | exact len_ok hs | exact max_ok hs | exact min_ok hs | trivial
  all_goals trivial

/-- Those that do not look at memory do so in every world. -/
theorem plain_any (hs : EvOk s ρ) (o : Oper) (h1 : ∀ t x, o.op ≠ .load t x) (h2 : ∀ t x y, o.op ≠ .store t x y) : ResOk C s w ((execOp ρ o).run C.P w) (resOf C s o.dst o.op) := by
  obtain ⟨d, op, ty, p, af, g⟩ := o
  cases op
  case move x => exact move_ok hs
  case assign x => exact assign_ok hs
  case pick c a b => exact pick_ok hs
  case alloc t => exact alloc_ok hs
  case box t x => exact box_ok hs
  case build t ps => exact build_ok hs
  case buildSlice t n ps => exact buildSlice_ok hs
  case load t x => exact absurd rfl (h1 t x)
  case store t x y => exact absurd rfl (h2 t x y)
  case nilCheck x => exact nilCheck_ok hs
  case binOp op t x y u => exact bin_ok hs
  case unOp op t x => exact un_ok hs
  case convert st t x => exact convert_ok hs
  case fieldAddr t x f => exact fieldAddr_ok hs
  case field t x f => exact field_ok hs
  case extract x i => exact extract_ok hs
  case indexAddr t x i => exact indexAddr_ok hs
  case index t x i => exact indexV_ok hs
  case slice t x lo hi mx => exact slice_ok hs
  case makeFunc fn first cap => cases fn <;> first | exact makeFunc_ok hs | trivial
  case call c =>
    obtain ⟨callee, args, ats⟩ := c
    cases callee <;> try trivial
    rename_i b
    cases b <;> first | exact len_ok hs | exact max_ok hs | exact min_ok hs | trivial
  all_goals trivial
end

end Go.Vc
end
section
/- The conditions of one operation, of a region, of code; that they suffice. -/
namespace Go.Vc
open Go.RowKit

/-- What an operation leaves, with a round's call. -/
def upony (P : Program) (o : Oper) (a : Act) (next : Act → World → Prop) (Q : Exit → Act → World → Prop) : Result Next → Prop
  | .ok (.round l f tmps assign body) w' => RoundIn Fence.wide 0 P l f tmps assign body w' fun
      | .returned v, w'' => next (a.put o.dst v) w''
      | .panicked chain, w'' => Q (.panic chain) a w''
      | .outgrown, _ => LetsOut Q
  | r => o.upon P a next Q r
def wpy (P : Program) (o : Oper) (a : Act) (w : World) (next : Act → World → Prop) (Q : Exit → Act → World → Prop) : Prop := upony P o a next Q ((execOp a.eval o).run P w)
section
variable (P : Program) (o : Oper) (a : Act) (next : Act → World → Prop) (Q : Exit → Act → World → Prop) (w : World)
theorem upony_value (v : Value) : upony P o a next Q (.ok (.value v) w) = next (a.put o.dst v) w := rfl
theorem upony_skip : upony P o a next Q (.ok .skip w) = next (a.put o.dst undef) w := rfl
theorem upony_enter (f : FuncId) (args : Array Value) : upony P o a next Q (.ok (.enter f args) w) = Calls P f args w fun
    | .returned v, w'' => next (a.put o.dst v) w''
    | .panicked chain, w'' => Q (.panic chain) a w''
    | .outgrown, _ => LetsOut Q := rfl
theorem upony_round (l : Nat) (f : FuncId) (tmps : Array Value) (assign body : Code) : upony P o a next Q (.ok (.round l f tmps assign body) w) = RoundIn Fence.wide 0 P l f tmps assign body w fun
    | .returned v, w'' => next (a.put o.dst v) w''
    | .panicked chain, w'' => Q (.panic chain) a w''
    | .outgrown, _ => LetsOut Q := rfl
end

/-- All is let in; the frame is that of a round, or not. -/
def WF (r : Option Nat) : Fence := { fn := fun _ => True, depth := none, alive := false, round := r }
theorem wpIn_of_wpy {r : Option Nat} {P : Program} {o : Oper} {a : Act} {w : World} {next : Act → World → Prop} {Q : Exit → Act → World → Prop} (hd : ∀ c, o.op ≠ .defer c) (h : wpy P o a w next Q) : o.wpIn (WF r) 0 P a w next Q := by
  refine ⟨fun _ _ => trivial, ?_⟩
  rw [Oper.semAt_eq _ _ _ hd]
  unfold wpy at h
  generalize (execOp a.eval o).run P w = x at h
  have ht : (WF r).depth.isSome = true → 1 ≤ 0 := fun h => by simp [WF] at h
  cases x with
  | ok n w' =>
    cases n <;> first
      | exact h
      | exact h.elim
      | exact ⟨ht, (callsIn_wide (n := 0 - 1)).2 h⟩
      | exact ⟨ht, fun c cs _ => let ⟨v, w', r, s⟩ := h c cs; ⟨v, w', r, stepsIn_wide.2 s⟩⟩
      | exact ⟨ht, h⟩
  | halt x w' => cases x <;> first | exact h | exact h.elim

def Unsup (_why : String) : Prop := False

inductive Ex where
  | normal
  | exit (id : Nat)
  | ret

def Ex.to : Ex → Exit
  | .normal => .normal
  | .exit i => .exit i
  | .ret => .ret

/-- Of the blocks of w those outside bs are in w' as they were. -/
structure Kept (bs : List Nat) (w w' : World) : Prop where
  os : w'.os = w.os
  tape : w'.tape = w.tape
  output : w'.output = w.output
  size : w.heap.size ≤ w'.heap.size
  block : ∀ k, k < w.heap.size → k ∉ bs → w'.heap[k]? = w.heap[k]?
  own : ∀ b ∈ bs, b < w'.heap.size

theorem Kept.refl {bs : List Nat} {w : World} (h : ∀ b ∈ bs, b < w.heap.size) : Kept bs w w := ⟨rfl, rfl, rfl, Nat.le_refl _, fun _ _ _ => rfl, h⟩
/-- One step more. -/
theorem Kept.step {bs cs : List Nat} {a b c : World} (h : Kept bs a b) (hs : ∀ x ∈ bs, x ∈ cs) (os : c.os = b.os) (tape : c.tape = b.tape) (output : c.output = b.output) (size : b.heap.size ≤ c.heap.size)
    (block : ∀ k, k < b.heap.size → k ∉ cs → c.heap[k]? = b.heap[k]?) (own : ∀ x ∈ cs, x < c.heap.size) : Kept cs a c :=
  ⟨os.trans h.os, tape.trans h.tape, output.trans h.output, Nat.le_trans h.size size, fun i hi hn => (block i (Nat.lt_of_lt_of_le hi h.size) hn).trans (h.block i hi fun hb => hn (hs i hb)), own⟩

/-- The same of the blocks whose numbers lie in some ranges. -/
structure KeptIn (rs : List (Nat × Nat)) (bs : List Nat) (w w' : World) : Prop where
  os : w'.os = w.os
  tape : w'.tape = w.tape
  output : w'.output = w.output
  size : w.heap.size ≤ w'.heap.size
  block : ∀ k, k < w.heap.size → k ∉ bs → (∃ r ∈ rs, r.1 ≤ k ∧ k < r.2) → w'.heap[k]? = w.heap[k]?
  own : ∀ b ∈ bs, b < w'.heap.size

/-- What a call, or an operation that touches memory, must leave: all that was there; or, at least, the call's own variables (and, if 'pure', what was there when the function began). -/
inductive KeepX (pure : Bool) (base : Nat) (bs : List Nat) (gh : Nat → Prop) (w w' : World) : Prop where
  | all (h : Below w.heap.size w w')
  | own (os : w'.os = w.os) (tape : w'.tape = w.tape) (output : w'.output = w.output) (size : w.heap.size ≤ w'.heap.size) (h : pure = true → Below base w w') (k : ∀ b ∈ bs, w'.heap[b]? = w.heap[b]?) (g : ∀ b, gh b → w'.heap[b]? = w.heap[b]?)

inductive Sh where
  | int (k : IntKind)
  | bool
  | str
  | sl
  | ptr
  | map
  | val

def shapeOf (P : Program) : Nat → TypeId → Option (List Sh)
  | 0, _ => none
  | d + 1, t => match P.underlying t with
    | some .bool => some [.bool]
    | some (.int k) => some [.int k]
    | some .string => some [.str]
    | some (.slice _) => some [.sl]
    | some (.pointer _) => some [.ptr]
    | some (.map _ _) => some [.map]
    | some (.struct fs) => fs.toList.foldr (fun f acc => match shapeOf P d f.type, acc with
      | some a, some b => some (a ++ b)
      | _, _ => none) (some [])
    | some (.array n e) => bif Nat.ble n 64 then match shapeOf P d e with
      | some a => some ((List.range n).foldr (fun _ acc => a ++ acc) [])
      | none => none
      else none
    | some _ => some [.val]
    | none => none

def exSh : List Sh → (List Lf → Prop) → Prop
  | [], K => K []
  | .int k :: s, K => ∃ n : Int, exSh s fun l => K (.int k n :: l)
  | .bool :: s, K => ∃ b : Bool, exSh s fun l => K (.bool b :: l)
  | .str :: s, K => ∃ b : ByteArray, exSh s fun l => K (.str b :: l)
  | .sl :: s, K => ∃ (a : Option Addr) (n c : Nat), exSh s fun l => K (.sl a n c :: l)
  | .ptr :: s, K => ∃ a : Option Addr, exSh s fun l => K (.op a :: l)
  | .map :: s, K => ∃ r : Nat, exSh s fun l => K (.map r :: l)
  | .val :: s, K => ∃ v : Value, exSh s fun l => K (.val v :: l)

/-- A value of a type: some cells. -/
def exPV (P : Program) (t : TypeId) (K : PV → Prop) : Prop :=
  match shapeOf P 8 t with
  | some sh => bif isAggB P t then exSh sh fun l => K (.agg l) else exSh sh fun
    | [x] => K (.one x)
    | _ => Unsup "a values shape"
  | none => Unsup "a values type"

def exPVs (P : Program) : List TypeId → (List PV → Prop) → Prop
  | [], K => K []
  | t :: ts, K => exPV P t fun p => exPVs P ts fun l => K (p :: l)

/-- What a function returns. -/
def exRes (P : Program) (ts : List TypeId) (K : SV → Prop) : Prop :=
  match ts with
  | [t] => exPV P t fun p => K (.pv p)
  | ts => exPVs P ts fun l => K (.tup l)

/-- A block's number, as far as it is known. -/
def freshI (b : Nat) : List (Nat × World × World) → Prop → Prop
  | [], K => K
  | (_, u, u') :: r, K => (b < u.heap.size ∨ u'.heap.size ≤ b) → freshI b r K
def fresh (s : SS) (wp : World) (b : Nat) (K : Prop) : Prop :=
  match s.ws with
  | none => wp.heap.size ≤ b → K
  | some u => u.heap.size ≤ b → freshI b s.xs K

/-- Behind an operation that touches memory. -/
def SS.past (s : SS) (strict : Bool) (dst : Option Tmp) (w w' : World) : SS :=
  match s.ws with
  | none => s
  | some _ => match strict, dst with
    | true, some d => { s with xs := (d, w, w') :: s.xs }
    | _, _ => { s with ws := some w', xs := [] }

def withOne : List Lf → Prop → Prop
  | [], K => K
  | .val v :: r, K => OneV v ∧ withOne r K
  | _ :: r, K => withOne r K

/-- A slot is written; where it guards operations behind it, the ways part here. -/
def putK (C : Cfg) (gs : List Nat) (s : SS) (dst : Option Tmp) (v : SV) (K : SS → Prop) : Prop :=
  match dst with
  | none => K s
  | some d => bif Nat.blt d C.n then
      bif memB d gs then match v with
        | .pv (.one (.bool b)) => (b = true → K (s.put (some d) (.pv (.one (.tf true))))) ∧ (b = false → K (s.put (some d) (.pv (.one (.tf false)))))
        | .pv (.one (.cmp c x y)) => (c.p x y → K (s.put (some d) (.pv (.one (.tf true))))) ∧ (c.no.p x y → K (s.put (some d) (.pv (.one (.tf false)))))
        | v => K (s.put (some d) v)
      else K (s.put (some d) v)
    else Unsup "a slot out of range"

def locs (C : Cfg) (s : SS) : List Nat := locsFrom s.L C.n

def rngs : List (Nat × World × World) → List (Nat × Nat)
  | [] => []
  | (_, u, u') :: r => (u.heap.size, u'.heap.size) :: rngs r

/-- At a world that is known only by what has been kept. -/
def expo (C : Cfg) (s : SS) (wp : World) (K : World → Prop) : Prop :=
  match s.ws with
  | none => match C.pure with
    | true => ∀ w, Below C.base C.w0 w → Kept (locs C s) wp w → K w
    | false => ∀ w, Kept (locs C s) wp w → K w
  | some u => match C.pure with
    | true => ∀ w, Below C.base C.w0 w → KeptIn ((0, u.heap.size) :: rngs s.xs) (locs C s) wp w → K w
    | false => ∀ w, KeptIn ((0, u.heap.size) :: rngs s.xs) (locs C s) wp w → K w

/-- The call's own variables that a value mentions: what they hold. -/
def withLoc1 (L : Nat → Option LocE) (w : World) : List Nat → Prop → Prop
  | [], K => K
  | k :: r, K => match L k with
    | some e => match toVs L e.cells with
      | some vs => w.heap[e.b]? = some (.cells vs.toArray e.T (0, 0)) → withLoc1 L w r K
      | none => withLoc1 L w r K
    | none => withLoc1 L w r K
/-- The variables that these hold in turn. -/
def deepK (L : Nat → Option LocE) : List Nat → List Nat
  | [] => []
  | k :: r => (match L k with
    | some e => lfKeysF e.cells
    | none => []) ++ deepK L r
def withLoc (L : Nat → Option LocE) (w : World) (ks : List Nat) (K : Prop) : Prop := withLoc1 L w (ks ++ deepK L ks) K

def Callable (P : Program) (g : FuncId) : Prop := ∀ (args : Array Value) (w : World), (callFunc g args).run P w = .ok (.enter g args) w

def lfKeys : List Lf → List Nat
  | [] => []
  | .loc k _ :: r => k :: lfKeys r
  | .lsl k _ _ _ :: r => k :: lfKeys r
  | _ :: r => lfKeys r
def SV.keys (v : SV) : List Nat := lfKeys v.lfs

def callOk (P : Program) (f : FuncId) : Bool :=
  match P.funcs[f]? with
  | some fn => fn.body.isSome && !(fn.name == "runtime.NumGoroutine")
  | none => false

/-- The types of a call's results, out of the type of the operation. -/
def typesOf (P : Program) (t : TypeId) : List TypeId :=
  match P.info? t with
  | some i => match i.desc with
    | .tuple ts => ts.toList
    | _ => [t]
  | none => []

def resTypes (P : Program) (f : FuncId) : List TypeId :=
  match P.funcs[f]? with
  | some fn => fn.resultTypes.toList
  | none => []

/-- A call of a function that is known. -/
def hasKey : List (Nat × List (Nat × TypeId)) → Nat → Bool
  | [], _ => false
  | (k, _) :: r, x => bif Nat.beq k x then true else hasKey r x
/-- Loops with an indexed invariant in place of a measure. -/
def Cfg.idx (C : Cfg) : Bool := hasKey C.joins 4000000
def Cfg.maps (C : Cfg) : Bool := hasKey C.joins 5000000
/-- In a drawn region nothing is read but the call's own variables: what is unordered must leave the blocks that the region has made, and need not leave all. -/
def Cfg.semi (C : Cfg) : Bool := hasKey C.joins 3000000 || C.maps
/-- Blocks that hold cells (no maps) are in w' as they were. -/
def IsC (w : World) (b : Nat) : Prop := ∃ c T r, w.heap[b]? = some (.cells c T r)
def CellsKept (w w' : World) : Prop := ∀ b, IsC w b → w'.heap[b]? = w.heap[b]?
def ghZ (s : SS) (w : World) : Nat → Prop :=
  match s.ws with
  | none => s.gh
  | some u => fun b => s.gh b ∨ (u.heap.size ≤ b ∧ b < w.heap.size)
def keepP (strict : Bool) (C : Cfg) (s : SS) (w w' : World) : Prop :=
  match strict with
  | true => match C.semi with
    | true => match C.maps with
      | true => KeepX C.pure C.base (locs C s) (ghZ s w) w w' ∧ CellsKept w w'
      | false => KeepX C.pure C.base (locs C s) (ghZ s w) w w'
    | false => Below w.heap.size w w'
  | false => KeepX C.pure C.base (locs C s) s.gh w w'
def isSomeW : Option World → Bool
  | some _ => true
  | none => false

def callVC (C : Cfg) (gs : List Nat) (strict : Bool) (o : Oper) (f : FuncId) (first cap : List Value) (keys : List Nat) (args : List Operand) (ts : List TypeId) (K : SS → World → Prop) (s : SS) (wp : World) : Prop :=
  match evVs s args with
  | some vs => expo C s wp fun w => withLoc s.L w (keys ++ evKeys s args) (Calls C.P f (first ++ vs ++ cap).toArray w fun e w' =>
      exRes C.P ts fun v => match v.toV s.L with
        | some r => e = .returned r ∧ keepP strict C s w w' ∧ putK C gs s o.dst v fun s' => K (s'.past strict o.dst w w') w'
        | none => Unsup "a result")
  | none => Unsup "an argument of a call"

/-- A run of a piece of the model that yields a value. -/
def RunsTo (P : Program) (s : Sem Value) (w : World) (R : Value → World → Prop) : Prop := ∃ v w', s.run P w = .ok v w' ∧ R v w'

def cellsAt (w : World) (b : Nat) : Nat → List Value → Prop → Prop
  | _, [], K => K
  | o, v :: r, K => w.cell? ⟨b, o, none⟩ = some v ∧ cellsAt w b (o + 1) r K

def notIn (b : Nat) : List Nat → Prop
  | [] => True
  | [x] => b ≠ x
  | x :: r => b ≠ x ∧ notIn b r

/-- A load from memory that is not the call's own: the cells as they lie in the last known world. -/
def refW (s : SS) (anc : List Nat) (wp : World) : World :=
  match s.ws with
  | none => wp
  | some u => match s.xs.find? fun x => memB x.1 anc with
    | some x => x.2.2
    | none => u

def loadVC (C : Cfg) (gs anc : List Nat) (dst : Option Tmp) (t : TypeId) (b off : Nat) (K : SS → World → Prop) (s : SS) (wp : World) : Prop :=
  bif C.semi && !C.maps && isSomeW s.ws then Unsup "a load in a region that was thought to have none" else
  bif hasT C.P t then exPV C.P t fun p => match toVs s.L p.cells with
    | some vs => bif Nat.beq vs.length (C.P.cellsOf t) then cellsAt (refW s anc wp) b off vs (match locs C s with
      | [] => putK C gs s dst (.pv p) fun s' => K s' wp
      | l => (b < C.base ∨ notIn b l) ∧ putK C gs s dst (.pv p) fun s' => K s' wp)
      else Unsup "load size"
    | none => Unsup "load cells"
  else Unsup "load type"

def rawBuiltin (b : Builtin) (ats : Array TypeId) (ty : TypeId) (vs : List Value) : Option (Sem Value × Option (List TypeId)) :=
  match b with
  | .append => some (Builtin.append_ ats ty vs.toArray, some [ty])
  | .cap => some (Builtin.cap_ ats ty vs.toArray, some [ty])
  | .len => some (Builtin.len_ ats ty vs.toArray, some [ty])
  | .copy => some (Builtin.copy_ ats ty vs.toArray, some [ty])
  | _ => none

/-- The operations that touch memory beyond the call's own variables, as pieces of the model; the types of what they yield ('none': nothing). -/
def rawSem (P : Program) (s : SS) (o : Oper) : Option (Sem Value × Option (List TypeId)) :=
  let v (x : Operand) : Option Value := (s.ev x).toV s.L
  match o.op with
  | .store t x y => match v x, v y with
    | some a, some b => some (do Instr.storeAt t a b; pure undef, none)
    | _, _ => none
  | .lookup t x y ok => match v x, v y, P.underlying t with
    | some a, some b, some (.map _ e) => some (Instr.lookup t a b ok, some (if ok then [e, P.rt.bool] else [e]))
    | _, _, _ => none
  | .mapUpdate t m k x => match v m, v k, v x with
    | some a, some b, some c => some (do Instr.mapUpdate t a b c; pure undef, none)
    | _, _, _ => none
  | .insert t m k x => match v m, v k, v x with
    | some a, some b, some c => some (do Instr.mapUpdate t a b c; pure undef, none)
    | _, _, _ => none
  | .mapEntry t m k => match v m, v k, P.underlying t with
    | some a, some b, some (.map _ e) => some (Instr.mapEntry t a b, some [e, P.rt.int])
    | _, _, _ => none
  | .entryStore t m k x => match v m, v k, v x with
    | some a, some b, some c => some (do Instr.entryStore t a b c; pure undef, none)
    | _, _, _ => none
  | .makeMap t none => some (Instr.makeMap t none, some [t])
  | .makeSlice t l c => match v l, v c with
    | some a, some b => some (Instr.makeSlice t a b, some [t])
    | _, _ => none
  | .slice t x none none none => match v x with
    | some a => some (Instr.sliceAt t a none none none, some [o.type])
    | _ => none
  | .slice t x (some l) none none => match v x, v l with
    | some a, some b => some (Instr.sliceAt t a (some b) none none, some [o.type])
    | _, _ => none
  | .slice t x none (some h) none => match v x, v h with
    | some a, some b => some (Instr.sliceAt t a none (some b) none, some [o.type])
    | _, _ => none
  | .slice t x (some l) (some h) none => match v x, v l, v h with
    | some a, some b, some c => some (Instr.sliceAt t a (some b) (some c) none, some [o.type])
    | _, _, _ => none
  | .index t x i => match v x, v i with
    | some a, some b => some (Instr.index t a b, some [o.type])
    | _, _ => none
  | .binOp op t x y _ => match v x, v y with
    | some a, some b => some (do eqGuard op t x y a b; binOp op t a b, some [o.type])
    | _, _ => none
  | .convert st t x => match v x with
    | some a => some (convert st t a, some [t])
    | _ => none
  | .makeInterface t x => match v x with
    | some a => some (Instr.makeInterface t a, some [o.type])
    | _ => none
  | .call c => match c.callee with
    | .builtin b => match evVs s c.args.toList with
      | some vs => rawBuiltin b c.argTypes o.type vs
      | none => none
    | _ => none
  | .range t x => match v x with
    | some a => some (Instr.range t a, some [o.type])
    | _ => none
  | .next x str => match v x with
    | some a => some (Instr.next a str o.type, some [])
    | _ => none
  | .entry x => match v x with
    | some a => some (Instr.entry a, some [])
    | _ => none
  | _ => none

/-- The types of an entry of a map that is ranged over: they are told beside the variables that escape. -/
def entTs : List Nat → Nat → List TypeId
  | [], _ => []
  | e :: r, d => bif Nat.beq (Nat.div e 1000000000) (d + 1) then [Nat.mod (Nat.div e 10000) 100000, Nat.mod e 10000] else entTs r d

/-- What an operation on memory yields. -/
def exRaw (C : Cfg) (o : Oper) (ts : List TypeId) (K : SV → Prop) : Prop :=
  match o.op with
  | .next _ true => (∃ i c : Int, K (.tup [.one (.tf true), .one (.int .i64 i), .one (.int .i32 c)])) ∨ K (.tup [.one (.tf false)])
  | .next _ false => (∃ k v : Value, K (.tup [.one (.tf true), .one (.val k), .one (.val v)])) ∨ K (.tup [.one (.tf false)])
  | .entry _ => match o.dst with
    | some d => exRes C.P (entTs C.esc d) K
    | none => Unsup "an entry"
  | _ => exRes C.P ts K

def rawVC (C : Cfg) (gs : List Nat) (strict : Bool) (o : Oper) (why : String) (K : SS → World → Prop) (s : SS) (wp : World) : Prop :=
  match rawSem C.P s o with
  | some (m, some ts) => expo C s wp fun w => withLoc s.L w (evKeys s o.op.operands.toList) (RunsTo C.P m w fun u w' =>
      exRaw C o ts fun v => match v.toV s.L with
        | some r => u = r ∧ keepP strict C s w w' ∧ putK C gs s o.dst v fun s' => K (s'.past strict o.dst w w') w'
        | none => Unsup "a result")
  | some (m, none) => match o.dst with
    | none => expo C s wp fun w => withLoc s.L w (evKeys s o.op.operands.toList) (RunsTo C.P m w fun _ w' => keepP strict C s w w' ∧ K (s.past strict o.dst w w') w')
    | some _ => Unsup "a slot for nothing"
  | none => Unsup why

/-- A call of the function that a range over a function hands its iterator. -/
def yieldVC (C : Cfg) (gs : List Nat) (strict : Bool) (o : Oper) (y : Value) (args : List Operand) (K : SS → World → Prop) (s : SS) (wp : World) : Prop :=
  match evVs s args with
  | some vs => expo C s wp fun w => withLoc s.L w (evKeys s args) (∃ l : Nat, y = .func (.yield l) #[] #[] ∧ YieldAt Fence.wide 0 C.P l vs.toArray w fun e w' =>
      ∃ b : Bool, e = .returned (.bool b) ∧ keepP strict C s w w' ∧ putK C gs s o.dst (.pv (.one (.bool b))) fun s' => K (s'.past strict o.dst w w') w')
  | none => Unsup "an argument of a call"

/-- Whether a call's callee is a function value like any other (by the configuration), not a range's own. -/
def valCall (C : Cfg) : Option Tmp → Bool
  | none => false
  | some d => hasKey C.joins (7000000 + d)

def isAllocB : Op → Bool
  | .alloc _ => true
  | .box _ _ => true
  | .buildSlice _ _ _ => true
  | _ => false

/-- A variable that lives on as memory like any other. -/
def escVC (C : Cfg) (strict : Bool) (o : Oper) (K : SS → World → Prop) (s : SS) (wp : World) : Prop :=
  match o.dst, resOf { C with esc := [] } s o.dst o.op with
  | some d, .alloc T cells n => bif Nat.blt d C.n then withOne cells (match toVs s.L cells with
      | some vs => expo C s wp fun w => withLoc s.L w (lfKeysF cells) (∀ (b : Nat) (w' : World), b = w.heap.size → w' = w.alloc (.cells vs.toArray T (0, 0)) →
          K ((s.put (some d) (match n with | none => .pv (.one (.ptr b 0)) | some n => .pv (.one (.sl (some ⟨b, 0, none⟩) n n)))).past strict (some d) w w') w')
      | none => Unsup "a variables content") else Unsup "a slot out of range"
  | _, _ => Unsup "a variable that lives on"

def stepRun (C : Cfg) (gs anc : List Nat) (strict : Bool) (o : Oper) (K : SS → World → Prop) (s : SS) (wp : World) : Prop :=
  match resOf C s o.dst o.op with
  | .val v => putK C gs s o.dst v fun s' => K s' wp
  | .cond c v => c ∧ putK C gs s o.dst v fun s' => K s' wp
  | .ex a c f => ∃ b off : Nat, a = some ⟨b, off, none⟩ ∧ c ∧ putK C gs s o.dst (f b off) fun s' => K s' wp
  | .alloc T cells n => match o.dst with
    | some d => bif Nat.blt d C.n && (!(hasL s.L d) && !(s.ro d)) then
        withOne cells (∀ b : Nat, fresh s wp b (K { s with L := upd s.L d (some ⟨b, T, cells⟩), sl := upd s.sl d (match n with | none => .pv (.one (.loc d 0)) | some n => .pv (.one (.lsl d 0 n n))) } wp))
      else Unsup "a variable is made twice"
    | none => Unsup "a variable without a slot"
  | .store k off cells => match o.dst, s.L k with
    | none, some e => bif s.ro k then Unsup "a store into a variable that a loop was said not to change" else withOne cells (K { s with L := upd s.L k (some { e with cells := setAt e.cells off cells }) } wp)
    | _, _ => Unsup "a store"
  | .no why => bif isAllocB o.op then escVC C strict o K s wp else match o.op with
    | .call { callee := .value f, args, .. } => match s.ev f with
      | .pv (.one (.fn g first cap keys)) => bif callOk C.P g then callVC C gs strict o g first cap keys args.toList (resTypes C.P g) K s wp else Unsup "a call of a function without a body"
      | .pv (.one (.fv g first cap)) => Callable C.P g ∧ callVC C gs strict o g first cap [] args.toList (typesOf C.P o.type) K s wp
      | .pv (.one (.val y)) => match valCall C o.dst with
        | true => ∃ (g : FuncId) (first cap : List Value), y = .func (.func g) first.toArray cap.toArray ∧ Callable C.P g ∧ callVC C gs strict o g first cap [] args.toList (typesOf C.P o.type) K s wp
        | false => yieldVC C gs strict o y args.toList K s wp
      | _ => Unsup "a call"
    | .load t x => match s.ev x with
      | .pv (.one (.ptr b off)) => loadVC C gs anc o.dst t b off K s wp
      | _ => Unsup why
    | _ => rawVC C gs strict o why K s wp

def skipVC (C : Cfg) (s : SS) (dst : Option Tmp) (K : SS → World → Prop) (wp : World) : Prop :=
  match dst with
  | none => K s wp
  | some d => bif Nat.blt d C.n then K (s.put (some d) .undef) wp else Unsup "a slot out of range"

/-- A guard: the operation, or nothing. -/
def stepG (C : Cfg) (ops : Array Oper) (o : Oper) (run : SS → World → Prop) (K : SS → World → Prop) (s : SS) (wp : World) : Prop :=
  match o.guard with
  | none => run s wp
  | some (j, want) => match ops[j]? with
    | some oj => match oj.dst with
      | some t => match s.sl t with
        | .pv (.one (.tf b)) => bif (b == want) then run s wp else skipVC C s o.dst K wp
        | .undef => skipVC C s o.dst K wp
        | _ => Unsup "a guard"
      | none => Unsup "a guard without a slot"
    | none => Unsup "a guard without an operation"

def stepVC (C : Cfg) (ops : Array Oper) (gs anc : List Nat) (strict : Bool) (o : Oper) (K : SS → World → Prop) (s : SS) (wp : World) : Prop :=
  stepG C ops o (stepRun C gs anc strict o K) K s wp

def isDefB : Op → Bool
  | .defer _ => true
  | _ => false
theorem noDef_spec {o : Oper} (h : isDefB o.op = false) : ∀ c, o.op ≠ .defer c := fun c e => by rw [e] at h; cases h
def noDefers (ops : Array Oper) : Bool := ops.toList.all fun o => !(isDefB o.op)

def isLoadB : Op → Bool
  | .load _ _ => true
  | _ => false

def guardSlots (ops : Array Oper) : List Nat := ops.toList.filterMap fun o => match o.guard with
  | some (j, _) => match ops[j]? with
    | some oj => oj.dst
    | none => none
  | none => none

def opsVC (C : Cfg) (ops : Array Oper) (gs : List Nat) : List Nat → (SS → World → Prop) → SS → World → Prop
  | [], K, s, wp => K s wp
  | i :: rest, K, s, wp => match ops[i]? with
    | none => opsVC C ops gs rest K s wp
    | some o => stepVC C ops gs [] false o (opsVC C ops gs rest K) s wp

end Go.Vc
end
section
namespace Go.Vc
open Go.RowKit

/-- What is kept since a world (all, if regions may read). -/
theorem lt_of_some {w : World} {k : Nat} {o : Obj} (h : w.heap[k]? = some o) : k < w.heap.size := (Array.getElem?_eq_some_iff.1 h).1
structure KeptM (bs : List Nat) (u w : World) : Prop where
  block : ∀ k, IsC u k → k ∉ bs → w.heap[k]? = u.heap[k]?
theorem IsC.lt {w : World} {b : Nat} (h : IsC w b) : b < w.heap.size := by obtain ⟨c, T, r, h⟩ := h; exact lt_of_some h
theorem IsC.same {w w' : World} {b : Nat} (h : IsC w b) (e : w'.heap[b]? = w.heap[b]?) : IsC w' b := by obtain ⟨c, T, r, h⟩ := h; exact ⟨c, T, r, e.trans h⟩
theorem KeptM.step {bs cs : List Nat} {a b c : World} (h : KeptM bs a b) (hs : ∀ x ∈ bs, x ∈ cs) (block : ∀ k, IsC b k → k ∉ cs → c.heap[k]? = b.heap[k]?) : KeptM cs a c :=
  ⟨fun k hk hn => by
    have h1 := h.block k hk fun hb => hn (hs k hb)
    exact (block k (hk.same h1) hn).trans h1⟩
theorem Kept.toM {bs : List Nat} {u w : World} (h : Kept bs u w) : KeptM bs u w := ⟨fun k hk hn => h.block k hk.lt hn⟩
structure KeptZ (C : Cfg) (bs : List Nat) (u w : World) : Prop where
  size : u.heap.size ≤ w.heap.size
  kept : C.semi = false → Kept bs u w
  keptM : C.maps = true → KeptM bs u w
theorem KeptZ.of {C : Cfg} {bs : List Nat} {u w : World} (h : Kept bs u w) : KeptZ C bs u w := ⟨h.size, fun _ => h, fun _ => h.toM⟩
theorem KeptZ.map {C D : Cfg} {bs bs' : List Nat} {u w w' : World} (h : KeptZ C bs u w) (hz : w.heap.size ≤ w'.heap.size) (hK : Kept bs u w → Kept bs' u w') (hM : KeptM bs u w → KeptM bs' u w') (hD : D.semi = C.semi := by rfl) (hE : D.maps = C.maps := by rfl) : KeptZ D bs' u w' := ⟨Nat.le_trans h.size hz, fun hs => hK (h.kept (by rw [← hD]; exact hs)), fun hs => hM (h.keptM (by rw [← hE]; exact hs))⟩
structure WSim (C : Cfg) (s : SS) (wp w : World) : Prop where
  mem : MemS s w
  inj : ∀ k k' e e', s.L k = some e → s.L k' = some e' → e.b = e'.b → k = k'
  low : ∀ k e, s.L k = some e → C.base ≤ e.b ∧ k < C.n
  kept : Kept (locs C s) wp w
  below : C.pure = true → Below C.base C.w0 w
  hbase : C.base ≤ w.heap.size
  mu : ∀ k, k ∈ C.muts → s.ro k = false
  wx : s.ws = none → s.xs = []
  wsK : ∀ u, s.ws = some u → KeptZ C (locs C s) u w
  xsK : ∀ x, x ∈ s.xs → KeptZ C (locs C s) x.2.2 w

structure SameOs (w w' : World) : Prop where
  os : w'.os = w.os
  tape : w'.tape = w.tape
  output : w'.output = w.output
  size : w.heap.size ≤ w'.heap.size
theorem SameOs.refl (w : World) : SameOs w w := ⟨rfl, rfl, rfl, Nat.le_refl _⟩
theorem SameOs.trans {a b c : World} (h : SameOs a b) (k : SameOs b c) : SameOs a c := ⟨k.os.trans h.os, k.tape.trans h.tape, k.output.trans h.output, Nat.le_trans h.size k.size⟩

/-- The blocks that others own: those of a range over a function that is under way, or has been. -/
structure GhOk (base : Nat) (L : Nat → Option LocE) (gh : Nat → Prop) (rf : Bool) (rnd : Option Nat) (pg : Nat → Prop) (pw : World) (ds : List Deferred) (w : World) : Prop where
  po : SameOs pw w
  pn : ∀ b, pg b → gh b ∧ w.heap[b]? = pw.heap[b]?
  dj : ∀ k e, L k = some e → ¬ gh e.b
  gl : ∀ b, gh b → base ≤ b ∧ b < w.heap.size
  rd : ∀ l, rnd = some l → gh l ∧ ∃ r, w.heap[l]? = some (.loop r)
  df : ∃ Ds : List Nat, Ds.Nodup ∧ ds = Ds.map (fun D => { target := .collected D, args := #[] }) ∧ (rf = false → Ds = []) ∧ ∀ D ∈ Ds, gh D ∧ w.heap[D]? = some (.deferred (some []))

theorem GhOk.step {base : Nat} {L L' : Nat → Option LocE} {gh : Nat → Prop} {rf : Bool} {rnd : Option Nat} {pg : Nat → Prop} {pw : World} {ds : List Deferred} {w w' : World} (h : GhOk base L gh rf rnd pg pw ds w) (hL : ∀ k e, L' k = some e → ¬ gh e.b) (hs : SameOs w w') (hg : ∀ b, gh b → w'.heap[b]? = w.heap[b]?) : GhOk base L' gh rf rnd pg pw ds w' := by
  obtain ⟨po, pn, _, gl, rd, Ds, h1, h2, h3, h4⟩ := h
  refine ⟨po.trans hs, fun b hb => ⟨(pn b hb).1, by rw [hg b (pn b hb).1]; exact (pn b hb).2⟩, hL, fun b hb => ⟨(gl b hb).1, Nat.lt_of_lt_of_le (gl b hb).2 hs.size⟩, fun l hl => ?_, Ds, h1, h2, h3, fun D hD => ?_⟩
  · obtain ⟨g, r, e⟩ := rd l hl; exact ⟨g, r, by rw [hg l g]; exact e⟩
  · obtain ⟨g, e⟩ := h4 D hD; exact ⟨g, by rw [hg D g]; exact e⟩

structure Sim (C : Cfg) (s : SS) (a : Act) (wp w : World) : Prop where
  sl : SimS s a
  n : a.tmps.size = C.n
  d : GhOk C.base s.L s.gh s.rf s.rnd s.pg s.pw a.defers w
  w : WSim C s wp w

theorem upd_same {α : Type} (f : Nat → α) (d : Nat) (v : α) : upd f d v d = v := by simp [upd]
theorem upd_other {α : Type} (f : Nat → α) {d n : Nat} (v : α) (h : n ≠ d) : upd f d v n = f n := by
  have : Nat.beq n d = false := by
    cases hb : Nat.beq n d
    · rfl
    · exact absurd (Nat.eq_of_beq_eq_true hb) h
  simp [upd, this]

theorem simS_put {s : SS} {a : Act} {dst : Option Tmp} {sv : SV} {v : Value} (h : SimS s a) (hn : ∀ d, dst = some d → d < a.tmps.size) (hv : sv.toV s.L = some v) : SimS (s.put dst sv) (a.put dst v) := by
  cases dst with
  | none => exact h
  | some d =>
    intro k hk
    simp only [SS.put] at hk ⊢
    by_cases hkd : k = d
    · subst hkd
      rw [upd_same]
      exact ⟨v, hv, by simp [Act.put, hn k rfl]⟩
    · rw [upd_other _ _ hkd] at hk ⊢
      obtain ⟨u, h1, h2⟩ := h k hk
      refine ⟨u, h1, ?_⟩
      simp only [Act.put]
      rw [Array.getElem?_setIfInBounds_ne (fun e => hkd e.symm)]
      exact h2

theorem put_L (s : SS) (dst : Option Tmp) (v : SV) : (s.put dst v).L = s.L := by cases dst <;> rfl

theorem WSim.put {C : Cfg} {s : SS} {wp w : World} (h : WSim C s wp w) (dst : Option Tmp) (v : SV) : WSim C (s.put dst v) wp w := by
  obtain ⟨h1, h2, h3, h4, h5, h6, h7, h7', h8, h9⟩ := h
  have hl : locs C (s.put dst v) = locs C s := by simp [locs, put_L]
  exact ⟨fun k e he => by rw [put_L] at he ⊢; exact h1 k e he, by rw [put_L]; exact h2, by rw [put_L]; exact h3, hl ▸ h4, h5, h6, by cases dst <;> exact h7, by cases dst <;> exact h7', by rw [hl]; cases dst <;> exact h8, by rw [hl]; cases dst <;> exact h9⟩

theorem Sim.put {C : Cfg} {s : SS} {a : Act} {wp w : World} (h : Sim C s a wp w) {dst : Option Tmp} {sv : SV} {v : Value} (hn : ∀ d, dst = some d → d < C.n) (hv : sv.toV s.L = some v) : Sim C (s.put dst sv) (a.put dst v) wp w :=
  ⟨simS_put h.sl (fun d hd => by rw [h.n]; exact hn d hd) hv, by cases dst <;> simp [Act.put, h.n], by cases dst <;> exact h.d, h.w.put dst sv⟩

structure GhR (s s' : SS) : Prop where
  rnd : s'.rnd = s.rnd ∧ s'.pg = s.pg ∧ s'.pw = s.pw
  rf : s.rf = true → s'.rf = true
  same : s'.rf = false → s'.gh = s.gh
  mono : ∀ b, s.gh b → s'.gh b
theorem GhR.refl (s : SS) : GhR s s := ⟨⟨rfl, rfl, rfl⟩, fun h => h, fun _ => rfl, fun _ h => h⟩
theorem GhR.of {s s' : SS} (h1 : s'.rnd = s.rnd ∧ s'.pg = s.pg ∧ s'.pw = s.pw) (h2 : s'.rf = s.rf) (h3 : s'.gh = s.gh) : GhR s s' := ⟨h1, fun h => by rw [h2]; exact h, fun _ => h3, fun b h => by rw [h3]; exact h⟩
theorem GhR.trans {a b c : SS} (h : GhR a b) (k : GhR b c) : GhR a c :=
  ⟨⟨k.rnd.1.trans h.rnd.1, k.rnd.2.1.trans h.rnd.2.1, k.rnd.2.2.trans h.rnd.2.2⟩, fun x => k.rf (h.rf x), fun x => (k.same x).trans (h.same (by cases hb : b.rf; rfl; rw [k.rf hb] at x; cases x)), fun x hx => k.mono x (h.mono x hx)⟩

/-- What an operation leaves of the symbolic state. -/
structure FrO (M : List Nat) (dst : Nat → Prop) (s s' : SS) : Prop where
  sl : ∀ d, ¬ dst d → (∀ k, k ∈ (s.sl d).keys → s.ro k = true ∨ k ∈ M) → s'.sl d = s.sl d
  L : ∀ k e, s.L k = some e → (s.ro k = true ∨ k ∈ M) → ∃ e', s'.L k = some e' ∧ e'.b = e.b ∧ e'.T = e.T ∧ (s.ro k = true → e' = e)
  ro : s'.ro = s.ro
  g : GhR s s'

theorem FrO.refl (M : List Nat) (p : Nat → Prop) (s : SS) : FrO M p s s := ⟨fun _ _ _ => rfl, fun _ e he _ => ⟨e, he, rfl, rfl, fun _ => rfl⟩, rfl, .refl _⟩
theorem FrO.trans {M : List Nat} {p : Nat → Prop} {a b c : SS} (h : FrO M p a b) (k : FrO M p b c) : FrO M p a c :=
  ⟨fun d hd hp => by
    have e1 := h.sl d hd hp
    rw [k.sl d hd (by rw [e1, h.ro]; exact hp), e1], fun j e he hp => by
    obtain ⟨e1, h1, h2, h3, h4⟩ := h.L j e he hp
    obtain ⟨e2, k1, k2, k3, k4⟩ := k.L j e1 h1 (by rw [h.ro]; exact hp)
    exact ⟨e2, k1, k2.trans h2, k3.trans h3, fun hr => (k4 (by rw [h.ro]; exact hr)).trans (h4 hr)⟩, k.ro.trans h.ro, h.g.trans k.g⟩
theorem FrO.mono {M : List Nat} {p q : Nat → Prop} {a b : SS} (h : FrO M p a b) (hpq : ∀ d, p d → q d) : FrO M q a b := ⟨fun d hd => h.sl d fun hp => hd (hpq d hp), h.L, h.ro, h.g⟩
theorem FrO.put (M : List Nat) (s : SS) (dst : Option Tmp) (v : SV) : FrO M (fun d => dst = some d) s (s.put dst v) := by
  cases dst with
  | none => exact .refl _ _ _
  | some d => exact ⟨fun k hk _ => upd_other _ _ (fun e => hk (by rw [e])), fun _ e he _ => ⟨e, he, rfl, rfl, fun _ => rfl⟩, rfl, .of ⟨rfl, rfl, rfl⟩ rfl rfl⟩

theorem Cmp.b_true {c : Cmp} {x y : Int} (h : c.b x y = true) : c.p x y := by cases c <;> simpa [Cmp.b, Cmp.p] using h
theorem Cmp.b_false {c : Cmp} {x y : Int} (h : c.b x y = false) : c.no.p x y := by cases c <;> simp [Cmp.b, Cmp.no, Cmp.p] at h ⊢ <;> omega

/-- What 'putK' says serves the value that is put. -/
theorem putK_sound {C : Cfg} {gs : List Nat} {s : SS} {a : Act} {wp w : World} {dst : Option Tmp} {sv : SV} {v : Value} {K : SS → Prop} (h : putK C gs s dst sv K) (hS : Sim C s a wp w) (hv : sv.toV s.L = some v) :
    ∃ u, K (s.put dst u) ∧ Sim C (s.put dst u) (a.put dst v) wp w := by
  unfold putK at h
  cases dst with
  | none => exact ⟨sv, h, hS⟩
  | some d =>
    simp only at h
    cases hb : Nat.blt d C.n <;> simp only [hb, cond_true, cond_false] at h
    · exact h.elim
    have hn : ∀ k, some d = some k → k < C.n := fun k hk => by cases hk; simpa [Nat.blt_eq] using hb
    cases hg : memB d gs <;> simp only [hg, cond_true, cond_false] at h
    · exact ⟨_, h, hS.put hn hv⟩
    split at h
    · rename_i b
      have hb : Value.bool b = v := by simpa [SV.toV, PV.toV, Lf.toV] using hv
      cases b
      · exact ⟨_, h.2 rfl, hS.put hn (by rw [← hb]; rfl)⟩
      · exact ⟨_, h.1 rfl, hS.put hn (by rw [← hb]; rfl)⟩
    · rename_i c x y
      have hb : Value.bool (c.b x y) = v := by simpa [SV.toV, PV.toV, Lf.toV] using hv
      cases hc : c.b x y
      · rw [hc] at hb
        exact ⟨_, h.2 (Cmp.b_false hc), hS.put hn (by rw [← hb]; rfl)⟩
      · rw [hc] at hb
        exact ⟨_, h.1 (Cmp.b_true hc), hS.put hn (by rw [← hb]; rfl)⟩
    · exact ⟨_, h, hS.put hn hv⟩

theorem withOne_spec : ∀ {l : List Lf} {K : Prop}, withOne l K → (∀ x ∈ l, oneOk x) ∧ K
  | [], K, h => ⟨by simp, h⟩
  | x :: r, K, h => by
    cases x
    case val v =>
      obtain ⟨h1, h2⟩ := withOne_spec h.2
      exact ⟨fun y hy => by rcases List.mem_cons.1 hy with rfl | hy; exact h.1; exact h1 y hy, h2⟩
    all_goals
      obtain ⟨h1, h2⟩ := withOne_spec (show withOne r K from h)
      exact ⟨fun y hy => by rcases List.mem_cons.1 hy with rfl | hy; exact trivial; exact h1 y hy, h2⟩

theorem mem_locs {C : Cfg} {s : SS} {b : Nat} : b ∈ locs C s ↔ ∃ k e, k < C.n ∧ s.L k = some e ∧ e.b = b := by
  unfold locs
  generalize C.n = n
  induction n with
  | zero => simp [locsFrom]
  | succ n ih =>
    simp only [locsFrom]
    split
    · rename_i e he
      simp only [List.mem_cons, ih]
      constructor
      · rintro (rfl | ⟨k, e', hk, h1, h2⟩)
        · exact ⟨n, e, by omega, he, rfl⟩
        · exact ⟨k, e', by omega, h1, h2⟩
      · rintro ⟨k, e', hk, h1, h2⟩
        by_cases hkn : k = n
        · subst hkn; rw [he] at h1; cases h1; exact .inl h2.symm
        · exact .inr ⟨k, e', by omega, h1, h2⟩
    · rename_i he
      rw [ih]
      constructor
      · rintro ⟨k, e', hk, h1, h2⟩; exact ⟨k, e', by omega, h1, h2⟩
      · rintro ⟨k, e', hk, h1, h2⟩
        by_cases hkn : k = n
        · subst hkn; rw [he] at h1; cases h1
        · exact ⟨k, e', by omega, h1, h2⟩

theorem toV_mono {L L' : Nat → Option LocE} (h : ∀ k e, L k = some e → ∃ e', L' k = some e' ∧ e'.b = e.b) {l : Lf} {v : Value} (hv : l.toV L = some v) : l.toV L' = some v := by
  cases l <;> simp only [Lf.toV] at hv ⊢ <;> try exact hv
  all_goals
    split at hv <;> simp at hv
    rename_i e he
    obtain ⟨e', h1, h2⟩ := h _ e he
    simp only [h1, h2, hv]
theorem toVs_mono {L L' : Nat → Option LocE} (h : ∀ k e, L k = some e → ∃ e', L' k = some e' ∧ e'.b = e.b) : ∀ {l : List Lf} {v : List Value}, toVs L l = some v → toVs L' l = some v
  | [], v, hv => hv
  | x :: r, v, hv => by
    simp only [toVs] at hv ⊢
    split at hv <;> simp at hv
    rename_i u us hu hus
    rw [toV_mono h hu, toVs_mono h hus]
    simp [hv]
theorem pvs_mono {L L' : Nat → Option LocE} (h : ∀ k e, L k = some e → ∃ e', L' k = some e' ∧ e'.b = e.b) : ∀ {l : List PV} {v : List Value}, pvs L l = some v → pvs L' l = some v
  | [], v, hv => hv
  | .one x :: r, v, hv => by
    simp only [pvs] at hv ⊢
    split at hv <;> simp at hv
    rename_i u us hu hus
    rw [show (PV.one x).toV L' = some u from toV_mono h hu, pvs_mono h hus]
    simp [hv]
  | .agg x :: r, v, hv => by
    simp only [pvs] at hv ⊢
    split at hv <;> simp at hv
    rename_i u us hu hus
    simp only [PV.toV] at hu
    split at hu <;> simp at hu
    rename_i vs hvs
    rw [show (PV.agg x).toV L' = some u by simp only [PV.toV, toVs_mono h hvs, hu], pvs_mono h hus]
    simp [hv]
theorem sv_mono {L L' : Nat → Option LocE} (h : ∀ k e, L k = some e → ∃ e', L' k = some e' ∧ e'.b = e.b) {l : SV} {v : Value} (hv : l.toV L = some v) : l.toV L' = some v := by
  cases l with
  | none => simp [SV.toV] at hv
  | undef => exact hv
  | pv q =>
    cases q with
    | one x => exact toV_mono h hv
    | agg x =>
      simp only [SV.toV, PV.toV] at hv ⊢
      split at hv <;> simp at hv
      rename_i vs hvs
      rw [toVs_mono h hvs]; simp [hv]
  | tup vs =>
    simp only [SV.toV] at hv ⊢
    split at hv <;> simp at hv
    rename_i us hus
    rw [pvs_mono h hus]; simp [hv]

theorem memB_spec {d : Nat} : ∀ {l : List Nat}, memB d l = true ↔ d ∈ l
  | [] => by simp [memB]
  | x :: xs => by
    simp only [memB, List.mem_cons]
    cases hb : Nat.beq d x
    · have hne : d ≠ x := fun e => by subst e; simp at hb
      simp [memB_spec (l := xs), hne]
    · have := Nat.eq_of_beq_eq_true hb
      simp [this]

theorem heap_push_old {w : World} {o : Obj} {k : Nat} (h : k < w.heap.size) : ({ w with heap := w.heap.push o } : World).heap[k]? = w.heap[k]? := by
  show (w.heap.push o)[k]? = _
  rw [Array.getElem?_push, if_neg (by omega)]

/-- A variable is made. -/
theorem sim_alloc {C : Cfg} {s : SS} {a : Act} {wp w : World} {d : Nat} {T : TypeId} {cells : List Lf} {vs : List Value} {v : Value} {sv : SV} (hS : Sim C s a wp w) (hd : d < C.n) (hL : s.L d = none) (hvs : toVs s.L cells = some vs)
    (hv : sv.toV (upd s.L d (some ⟨w.heap.size, T, cells⟩)) = some v) :
    Sim C { s with L := upd s.L d (some ⟨w.heap.size, T, cells⟩), sl := upd s.sl d sv } (a.put (some d) v) wp { w with heap := w.heap.push (.cells vs.toArray T (0, 0)) } := by
  have hm : ∀ k e, s.L k = some e → ∃ e', upd s.L d (some ⟨w.heap.size, T, cells⟩) k = some e' ∧ e'.b = e.b := fun k e he => by
    have hk : k ≠ d := fun e' => by subst e'; rw [hL] at he; cases he
    exact ⟨e, by rw [upd_other _ _ hk]; exact he, rfl⟩
  obtain ⟨hsl, hn, hdd, ⟨hmem, hinj, hlow, hkept, hbel, hbase, hmu, hwx, hws, hxs⟩⟩ := hS
  have hlo : ∀ x, x ∈ locs C s → x < w.heap.size := fun x hx => by
    obtain ⟨k, e, _, he, rfl⟩ := mem_locs.1 hx
    obtain ⟨us, _, h2⟩ := hmem k e he
    exact lt_of_some h2
  have hsub : ∀ x, x ∈ locs C s → x ∈ locs C { s with L := upd s.L d (some ⟨w.heap.size, T, cells⟩), sl := upd s.sl d sv } := fun x hx => by
    obtain ⟨k, e, h1, h2, h3⟩ := mem_locs.1 hx
    have hk : k ≠ d := fun e' => by subst e'; rw [hL] at h2; cases h2
    exact mem_locs.2 ⟨k, e, h1, by simp only [upd_other _ _ hk]; exact h2, h3⟩
  have hM : ∀ {u : World}, KeptM (locs C s) u w → KeptM (locs C { s with L := upd s.L d (some ⟨w.heap.size, T, cells⟩), sl := upd s.sl d sv }) u { w with heap := w.heap.push (.cells vs.toArray T (0, 0)) } := fun {u} h =>
    h.step hsub fun k hk _ => heap_push_old hk.lt
  have hK : ∀ {u : World}, Kept (locs C s) u w → Kept (locs C { s with L := upd s.L d (some ⟨w.heap.size, T, cells⟩), sl := upd s.sl d sv }) u { w with heap := w.heap.push (.cells vs.toArray T (0, 0)) } := fun {u} h => by
    refine h.step hsub rfl rfl rfl (by show w.heap.size ≤ (w.heap.push _).size; simp) (fun k hk _ => heap_push_old hk) fun x hx => ?_
    show x < (w.heap.push _).size
    obtain ⟨k, e, h1, h2, h3⟩ := mem_locs.1 hx
    by_cases hkd : k = d
    · subst hkd
      simp only [upd_same, Option.some.injEq] at h2
      subst h2; subst h3; simp
    · simp only [upd_other _ _ hkd] at h2
      have := hlo x (mem_locs.2 ⟨k, e, h1, h2, h3⟩)
      simp; omega
  refine ⟨?_, by simp [Act.put, hn], hdd.step (fun k e he hg => (by
    by_cases hkd : k = d
    · subst hkd; simp only [upd_same, Option.some.injEq] at he; subst he; exact Nat.lt_irrefl _ (hdd.gl _ hg).2
    · simp only [upd_other _ _ hkd] at he; exact hdd.dj k e he hg)) ⟨rfl, rfl, rfl, by show w.heap.size ≤ (w.heap.push _).size; simp⟩ fun b hb => heap_push_old (hdd.gl b hb).2, ?_⟩
  · intro k hk
    by_cases hkd : k = d
    · subst hkd
      simp only [upd_same]
      exact ⟨v, hv, by simp [Act.put, hn, hd]⟩
    · simp only [upd_other _ _ hkd] at hk ⊢
      obtain ⟨u, h1, h2⟩ := hsl k hk
      refine ⟨u, sv_mono hm h1, ?_⟩
      simp only [Act.put]
      rw [Array.getElem?_setIfInBounds_ne (fun e => hkd e.symm)]
      exact h2
  · refine ⟨?_, ?_, ?_, ?_, ?_, by show C.base ≤ (w.heap.push _).size; simp; omega, hmu, hwx, fun u hu => (hws u hu).map (by show w.heap.size ≤ (w.heap.push _).size; simp) hK hM, fun x hx => (hxs x hx).map (by show w.heap.size ≤ (w.heap.push _).size; simp) hK hM⟩
    · intro k e he
      by_cases hkd : k = d
      · subst hkd
        simp only [upd_same, Option.some.injEq] at he
        subst he
        exact ⟨vs, toVs_mono hm hvs, by show (w.heap.push _)[w.heap.size]? = _; simp⟩
      · simp only [upd_other _ _ hkd] at he
        obtain ⟨us, h1, h2⟩ := hmem k e he
        exact ⟨us, toVs_mono hm h1, by rw [heap_push_old (lt_of_some h2)]; exact h2⟩
    · intro k k' e e' he he' hb
      by_cases hkd : k = d <;> by_cases hkd' : k' = d
      · rw [hkd, hkd']
      · subst hkd
        simp only [upd_same, Option.some.injEq] at he
        simp only [upd_other _ _ hkd'] at he'
        subst he
        obtain ⟨us, h1, h2⟩ := hmem k' e' he'
        have := lt_of_some h2
        simp at hb; omega
      · subst hkd'
        simp only [upd_same, Option.some.injEq] at he'
        simp only [upd_other _ _ hkd] at he
        subst he'
        obtain ⟨us, h1, h2⟩ := hmem k e he
        have := lt_of_some h2
        simp at hb; omega
      · simp only [upd_other _ _ hkd] at he
        simp only [upd_other _ _ hkd'] at he'
        exact hinj k k' e e' he he' hb
    · intro k e he
      by_cases hkd : k = d
      · subst hkd
        simp only [upd_same, Option.some.injEq] at he
        subst he
        exact ⟨hbase, hd⟩
      · simp only [upd_other _ _ hkd] at he
        exact hlow k e he
    · exact hK hkept
    · intro hp
      exact (hbel hp).trans ⟨rfl, rfl, rfl, by show w.heap.size ≤ (w.heap.push _).size; simp, fun k hk => heap_push_old (by omega)⟩

/-- A store into a variable of the call's own. -/
theorem sim_store {C : Cfg} {s : SS} {a : Act} {wp w w' : World} {k : Nat} {e : LocE} {off : Nat} {cells : List Lf} {us : List Value} (hS : Sim C s a wp w) (he : s.L k = some e) (hus : toVs s.L cells = some us)
    (hst : Stored w w' e.b off e.T us) (hlen : off + us.length ≤ e.cells.length) : Sim C { s with L := upd s.L k (some { e with cells := setAt e.cells off cells }) } a wp w' := by
  have hm : ∀ k' e', s.L k' = some e' → ∃ e'', upd s.L k (some { e with cells := setAt e.cells off cells }) k' = some e'' ∧ e''.b = e'.b := fun k' e' he' => by
    by_cases hk : k' = k
    · subst hk; rw [he] at he'; cases he'; exact ⟨_, upd_same _ _ _, rfl⟩
    · exact ⟨e', by rw [upd_other _ _ hk]; exact he', rfl⟩
  have hb : ∀ k' e', upd s.L k (some { e with cells := setAt e.cells off cells }) k' = some e' → ∃ e'', s.L k' = some e'' ∧ e''.b = e'.b ∧ (k' ≠ k → e'' = e') := fun k' e' he' => by
    by_cases hk : k' = k
    · subst hk; rw [upd_same] at he'; cases he'; exact ⟨e, he, rfl, fun h => absurd rfl h⟩
    · rw [upd_other _ _ hk] at he'; exact ⟨e', he', rfl, fun _ => rfl⟩
  obtain ⟨hsl, hn, hdd, ⟨hmem, hinj, hlow, hkept, hbel, hbase, hmu, hwx, hws, hxs⟩⟩ := hS
  refine ⟨?_, hn, hdd.step (fun k' e' he' hg => (by obtain ⟨e'', g1, g2, _⟩ := hb k' e' he'; exact hdd.dj k' e'' g1 (by rw [g2]; exact hg))) ⟨hst.os, hst.tape, hst.output, by rw [hst.size]; exact Nat.le_refl _⟩ fun b hb => hst.other b fun e' => hdd.dj k e he (by rw [← e']; exact hb), ?_⟩
  · intro d hd
    obtain ⟨v, h1, h2⟩ := hsl d hd
    exact ⟨v, sv_mono hm h1, h2⟩
  · have hl : ∀ x, x ∈ locs C s ↔ x ∈ locs C { s with L := upd s.L k (some { e with cells := setAt e.cells off cells }) } := fun x => by
      rw [mem_locs, mem_locs]
      constructor
      · rintro ⟨k1, e1, h1, h2, h3⟩
        obtain ⟨e2, h4, h5⟩ := hm k1 e1 h2
        exact ⟨k1, e2, h1, h4, by rw [h5, h3]⟩
      · rintro ⟨k1, e1, h1, h2, h3⟩
        obtain ⟨e2, h4, h5, _⟩ := hb k1 e1 h2
        exact ⟨k1, e2, h1, h4, by rw [h5, h3]⟩
    have hM : ∀ {u : World}, KeptM (locs C s) u w → KeptM (locs C { s with L := upd s.L k (some { e with cells := setAt e.cells off cells }) }) u w' := fun {u} h => by
      refine h.step (fun x hx => (hl x).1 hx) fun j hj hn => hst.other j fun h => hn ?_
      subst h
      exact mem_locs.2 ⟨k, { e with cells := setAt e.cells off cells }, (hlow k e he).2, upd_same _ _ _, rfl⟩
    have hK : ∀ {u : World}, Kept (locs C s) u w → Kept (locs C { s with L := upd s.L k (some { e with cells := setAt e.cells off cells }) }) u w' := fun {u} h => by
      refine h.step (fun x hx => (hl x).1 hx) hst.os hst.tape hst.output (by rw [hst.size]; exact Nat.le_refl _) (fun j hj hn => hst.other j fun h => hn ?_) fun x hx => by rw [hst.size]; exact h.own x ((hl x).2 hx)
      subst h
      exact mem_locs.2 ⟨k, { e with cells := setAt e.cells off cells }, (hlow k e he).2, upd_same _ _ _, rfl⟩
    refine ⟨?_, ?_, ?_, ?_, ?_, by rw [hst.size]; exact hbase, hmu, hwx, fun u hu => (hws u hu).map (Nat.le_of_eq hst.size.symm) hK hM, fun x hx => (hxs x hx).map (Nat.le_of_eq hst.size.symm) hK hM⟩
    · intro k' e' he'
      by_cases hk : k' = k
      · subst hk
        simp only [upd_same, Option.some.injEq] at he'
        subst he'
        obtain ⟨vs, h1, h2⟩ := hmem k' e he
        obtain ⟨cs', h3, h4, h5⟩ := hst.here _ h2
        refine ⟨setAt vs off us, toVs_mono hm (toVs_setAt off h1 hus), ?_⟩
        rw [h3]
        congr 2
        apply Array.ext_getElem?
        intro i
        have hl := toVs_length h1
        rw [h5 i]
        simp only [List.getElem?_toArray]
        rw [setAt_get _ _ _ _ (by omega)]
      · simp only [upd_other _ _ hk] at he'
        obtain ⟨vs, h1, h2⟩ := hmem k' e' he'
        refine ⟨vs, toVs_mono hm h1, ?_⟩
        rw [hst.other e'.b (fun h => hk (hinj k' k e' e he' he h))]
        exact h2
    · intro k1 k2 e1 e2 h1 h2 h3
      obtain ⟨e1', g1, g2, _⟩ := hb k1 e1 h1
      obtain ⟨e2', g3, g4, _⟩ := hb k2 e2 h2
      exact hinj k1 k2 e1' e2' g1 g3 (by rw [g2, g4, h3])
    · intro k1 e1 h1
      obtain ⟨e1', g1, g2, _⟩ := hb k1 e1 h1
      rw [← g2]; exact hlow k1 e1' g1
    · exact hK hkept
    · intro hp
      exact (hbel hp).trans ⟨hst.os, hst.tape, hst.output, by rw [hst.size]; exact Nat.le_refl _, fun j hj => hst.other j fun h => by have := (hlow k e he).1; omega⟩

/-- What one operation does to the symbolic state, the slots and the world. -/
structure StepRel (C : Cfg) (strict : Bool) (dst : Option Tmp) (r : Res) (isLoad : Bool) (s : SS) (a : Act) (w : World) (s' : SS) (a' : Act) (w' : World) : Prop where
  act : ∃ v, a' = a.put dst v
  how : (∃ v, s' = s.put dst v ∧ w' = w) ∨
    (∃ d T cells sv obj, (∃ n, r = .alloc T cells n) ∧ dst = some d ∧ s.L d = none ∧ s' = { s with L := upd s.L d (some ⟨w.heap.size, T, cells⟩), sl := upd s.sl d sv } ∧ w' = { w with heap := w.heap.push obj }) ∨
    (∃ k e off cells us, r = .store k off cells ∧ dst = none ∧ s.ro k = false ∧ s.L k = some e ∧ s' = { s with L := upd s.L k (some { e with cells := setAt e.cells off cells }) } ∧ Stored w w' e.b off e.T us) ∨
    (∃ v, (∃ why, r = .no why) ∧ isLoad = false ∧ s' = (s.past strict dst w w').put dst v ∧ keepP strict C s w w')

theorem past_gh {s : SS} {strict : Bool} {dst : Option Tmp} {w w' : World} : (s.past strict dst w w').gh = s.gh ∧ (s.past strict dst w w').rf = s.rf ∧ (s.past strict dst w w').rnd = s.rnd := by
  unfold SS.past
  split
  · exact ⟨rfl, rfl, rfl⟩
  · split <;> exact ⟨rfl, rfl, rfl⟩
theorem past_L {s : SS} {strict : Bool} {dst : Option Tmp} {w w' : World} : (s.past strict dst w w').L = s.L ∧ (s.past strict dst w w').sl = s.sl ∧ (s.past strict dst w w').ro = s.ro := by
  unfold SS.past
  split
  · exact ⟨rfl, rfl, rfl⟩
  · split <;> exact ⟨rfl, rfl, rfl⟩
theorem past_g {s : SS} {strict : Bool} {dst : Option Tmp} {w w' : World} : GhR s (s.past strict dst w w') := by
  unfold SS.past
  split
  · exact .refl _
  · split <;> exact .of ⟨rfl, rfl, rfl⟩ rfl rfl
theorem FrO.past {M : List Nat} {p : Nat → Prop} {s s' : SS} {strict : Bool} {dst : Option Tmp} {w w' : World} (h : FrO M p (s.past strict dst w w') s') : FrO M p s s' := by
  obtain ⟨h1, h2, h3⟩ := past_L (s := s) (strict := strict) (dst := dst) (w := w) (w' := w')
  exact ⟨fun d hd hp => by rw [h.sl d hd (by rw [h2, h3]; exact hp), h2], fun k e he hp => by
    obtain ⟨e', q1, q2, q3, q4⟩ := h.L k e (by rw [h1]; exact he) (by rw [h3]; exact hp)
    exact ⟨e', q1, q2, q3, by rw [h3] at q4; exact q4⟩, by rw [h.ro, h3], past_g.trans h.g⟩

theorem StepRel.fr {C : Cfg} {M : List Nat} {strict : Bool} {dst : Option Tmp} {s s' : SS} {a a' : Act} {w w' : World} {r : Res} {il : Bool} (h : StepRel C strict dst r il s a w s' a' w') : FrO M (fun d => dst = some d) s s' := by
  rcases h.how with ⟨v, rfl, _⟩ | ⟨d, T, cells, sv, obj, _, hd, hL, rfl, _⟩ | ⟨k, e, off, cells, us, _, hd, hro, he, rfl, _⟩ | ⟨v, _, _, rfl, _⟩
  · exact .put _ _ _ _
  · refine ⟨fun k hk _ => upd_other _ _ fun e => hk (by rw [e]; exact hd), fun k e he _ => ⟨e, ?_, rfl, rfl, fun _ => rfl⟩, rfl, .of ⟨rfl, rfl, rfl⟩ rfl rfl⟩
    show upd s.L d _ k = some e
    rw [upd_other _ _ (fun e' => by subst e'; rw [hL] at he; cases he)]; exact he
  · refine ⟨fun _ _ _ => rfl, fun k' e' he' _ => ?_, rfl, .of ⟨rfl, rfl, rfl⟩ rfl rfl⟩
    by_cases hkk : k' = k
    · subst hkk; rw [he] at he'; cases he'
      exact ⟨_, upd_same _ _ _, rfl, rfl, fun hr => by rw [hro] at hr; cases hr⟩
    · exact ⟨e', by show upd s.L k _ k' = some e'; rw [upd_other _ _ hkk]; exact he', rfl, rfl, fun _ => rfl⟩
  · exact .past (.put _ _ _ _)

end Go.Vc
end
section
namespace Go.Vc
open Go.RowKit

theorem exSh_elim : ∀ {sh : List Sh} {K : List Lf → Prop}, exSh sh K → ∃ l, K l
  | [], K, h => ⟨[], h⟩
  | .int k :: s, K, h => by obtain ⟨n, h⟩ := h; obtain ⟨l, h⟩ := exSh_elim h; exact ⟨_, h⟩
  | .bool :: s, K, h => by obtain ⟨n, h⟩ := h; obtain ⟨l, h⟩ := exSh_elim h; exact ⟨_, h⟩
  | .str :: s, K, h => by obtain ⟨n, h⟩ := h; obtain ⟨l, h⟩ := exSh_elim h; exact ⟨_, h⟩
  | .sl :: s, K, h => by obtain ⟨a, n, c, h⟩ := h; obtain ⟨l, h⟩ := exSh_elim h; exact ⟨_, h⟩
  | .ptr :: s, K, h => by obtain ⟨a, h⟩ := h; obtain ⟨l, h⟩ := exSh_elim h; exact ⟨_, h⟩
  | .map :: s, K, h => by obtain ⟨n, h⟩ := h; obtain ⟨l, h⟩ := exSh_elim h; exact ⟨_, h⟩
  | .val :: s, K, h => by obtain ⟨n, h⟩ := h; obtain ⟨l, h⟩ := exSh_elim h; exact ⟨_, h⟩

theorem exPV_elim {P : Program} {t : TypeId} {K : PV → Prop} (h : exPV P t K) : ∃ p, K p := by
  unfold exPV at h
  split at h
  · rename_i sh _
    cases ha : isAggB P t <;> simp only [ha, cond_true, cond_false] at h
    · obtain ⟨l, h⟩ := exSh_elim h
      split at h
      · exact ⟨_, h⟩
      · exact h.elim
    · obtain ⟨l, h⟩ := exSh_elim h
      exact ⟨_, h⟩
  · exact h.elim
theorem exPVs_elim {P : Program} : ∀ {ts : List TypeId} {K : List PV → Prop}, exPVs P ts K → ∃ l, K l
  | [], K, h => ⟨[], h⟩
  | t :: ts, K, h => by
    obtain ⟨p, h⟩ := exPV_elim h
    obtain ⟨l, h⟩ := exPVs_elim h
    exact ⟨_, h⟩
theorem exRes_elim {P : Program} {ts : List TypeId} {K : SV → Prop} (h : exRes P ts K) : ∃ v, K v := by
  unfold exRes at h
  split at h
  · obtain ⟨p, h⟩ := exPV_elim h; exact ⟨_, h⟩
  · obtain ⟨p, h⟩ := exPVs_elim h; exact ⟨_, h⟩

theorem exRaw_elim {C : Cfg} {o : Oper} {ts : List TypeId} {K : SV → Prop} (h : exRaw C o ts K) : ∃ v, K v := by
  unfold exRaw at h
  split at h
  · rcases h with ⟨_, _, h⟩ | h <;> exact ⟨_, h⟩
  · rcases h with ⟨_, _, h⟩ | h <;> exact ⟨_, h⟩
  · split at h
    · exact exRes_elim h
    · exact h.elim
  · exact exRes_elim h

theorem expo_elim {C : Cfg} {s : SS} {wp w : World} {K : World → Prop} (h : expo C s wp K) (hw : WSim C s wp w) : K w := by
  unfold expo at h
  split at h
  · split at h
    · rename_i hp; exact h w (hw.below hp) hw.kept
    · exact h w hw.kept
  · have hk : ∀ rs, KeptIn rs (locs C s) wp w := fun rs => ⟨hw.kept.os, hw.kept.tape, hw.kept.output, hw.kept.size, fun k h1 h2 _ => hw.kept.block k h1 h2, hw.kept.own⟩
    split at h
    · rename_i hp; exact h w (hw.below hp) (hk _)
    · exact h w (hk _)

theorem withLoc1_elim {s : SS} {w : World} (hm : MemS s w) : ∀ {l : List Nat} {K : Prop}, withLoc1 s.L w l K → K
  | [], K, h => h
  | k :: r, K, h => by
    simp only [withLoc1] at h
    split at h
    · rename_i e he
      obtain ⟨vs, h1, h2⟩ := hm k e he
      rw [h1] at h
      exact withLoc1_elim hm (h h2)
    · exact withLoc1_elim hm h
theorem withLoc_elim {s : SS} {w : World} (hm : MemS s w) {l : List Nat} {K : Prop} (h : withLoc s.L w l K) : K := withLoc1_elim hm h

theorem ghZ_of {s : SS} {w : World} {b : Nat} (h : s.gh b) : ghZ s w b := by
  unfold ghZ
  cases s.ws with
  | none => exact h
  | some u => exact .inl h
theorem keepX_of {strict : Bool} {C : Cfg} {s : SS} {w w' : World} (h : keepP strict C s w w') : KeepX C.pure C.base (locs C s) s.gh w w' := by
  cases strict
  · exact h
  · unfold keepP at h
    cases hs : C.semi <;> simp only [hs] at h
    · exact .all h
    · replace h : KeepX C.pure C.base (locs C s) (ghZ s w) w w' := by
        cases hm : C.maps <;> simp only [hm] at h
        · exact h
        · exact h.1
      cases h with
      | all h => exact .all h
      | own h1 h2 h3 h4 h5 h6 h7 => exact .own h1 h2 h3 h4 h5 h6 fun b hb => h7 b (ghZ_of hb)
theorem maps_semi {C : Cfg} (h : C.maps = true) : C.semi = true := by unfold Cfg.semi; rw [h]; simp

/-- Behind a call, or an operation that touches memory. -/
theorem sim_after {C : Cfg} {s : SS} {a : Act} {wp w w' : World} {strict : Bool} {dst : Option Tmp} (hS : Sim C s a wp w) (hkp : keepP strict C s w w') : Sim C (s.past strict dst w w') a w' w' := by
  have hk := keepX_of hkp
  obtain ⟨hsl, hn, hd, ⟨hmem, hinj, hlow, hkept, hbel, hbase, hmu, hwx, hws, hxs⟩⟩ := hS
  have hloc : ∀ k e, s.L k = some e → w'.heap[e.b]? = w.heap[e.b]? := fun k e he => by
    obtain ⟨vs, h1, h2⟩ := hmem k e he
    cases hk with
    | all h => exact h.block _ (lt_of_some h2)
    | own _ _ _ _ _ h _ => exact h e.b (mem_locs.2 ⟨k, e, (hlow k e he).2, he, rfl⟩)
  have hlt : ∀ b, b ∈ locs C s → b < w'.heap.size := fun b hb => by
    obtain ⟨k, e, _, he, rfl⟩ := mem_locs.1 hb
    obtain ⟨vs, h1, h2⟩ := hmem k e he
    rw [← hloc k e he] at h2
    exact lt_of_some h2
  have hbel' : C.pure = true → Below C.base C.w0 w' := fun hp => by
    cases hk with
    | all h => exact (hbel hp).trans (h.mono hbase)
    | own _ _ _ _ h _ _ => exact (hbel hp).trans (h hp)
  have hbase' : C.base ≤ w'.heap.size := by
    cases hk with
    | all h => exact Nat.le_trans hbase h.size
    | own _ _ _ h _ _ _ => exact Nat.le_trans hbase h
  have hmem' : MemS s w' := fun k e he => by
    obtain ⟨vs, h1, h2⟩ := hmem k e he
    exact ⟨vs, h1, by rw [hloc k e he]; exact h2⟩
  replace hd : GhOk C.base s.L s.gh s.rf s.rnd s.pg s.pw a.defers w' := hd.step hd.dj (by cases hk with
    | all h => exact ⟨h.os, h.tape, h.output, h.size⟩
    | own h1 h2 h3 h _ _ _ => exact ⟨h1, h2, h3, h⟩) fun b hb => by
    cases hk with
    | all h => exact h.block b (hd.gl b hb).2
    | own _ _ _ _ _ _ h => exact h b hb
  unfold SS.past
  split
  · rename_i hw
    exact ⟨hsl, hn, hd, ⟨hmem', hinj, hlow, Kept.refl hlt, hbel', hbase', hmu, hwx, fun u hu => (by rw [hw] at hu; cases hu), fun x hx => (by rw [hwx hw] at hx; cases hx)⟩⟩
  · rename_i u0 hw
    split
    · rename_i d
      have hZ : w.heap.size ≤ w'.heap.size := by
        cases hk with
        | all h => exact h.size
        | own _ _ _ h _ _ _ => exact h
      have hK : ∀ {u : World}, KeptZ C (locs C s) u w → KeptZ C (locs C s) u w' := fun {u} h => ⟨Nat.le_trans h.size hZ, fun hs => by
        have hB : Below w.heap.size w w' := by
          have := hkp
          unfold keepP at this
          simp only [hs] at this
          exact this
        exact (h.kept hs).step (fun _ hx => hx) hB.os hB.tape hB.output hB.size (fun k hk _ => hB.block k hk) hlt, fun hm => by
        have hB : CellsKept w w' := by
          have := hkp
          unfold keepP at this
          simp only [maps_semi hm, hm] at this
          exact this.2
        exact (h.keptM hm).step (fun _ hx => hx) fun k hk _ => hB k hk⟩
      exact ⟨hsl, hn, hd, ⟨hmem', hinj, hlow, Kept.refl hlt, hbel', hbase', hmu, fun h => (by rw [hw] at h; cases h), fun u hu => hK (hws u hu), fun x hx => by
        rcases List.mem_cons.1 hx with rfl | hx
        · exact .of (Kept.refl hlt)
        · exact hK (hxs x hx)⟩⟩
    · exact ⟨hsl, hn, hd, ⟨hmem', hinj, hlow, Kept.refl hlt, hbel', hbase', hmu, fun h => (by simp at h), fun u hu => (by simp only [Option.some.injEq] at hu; subst hu; exact .of (Kept.refl hlt)), fun x hx => (by simp at hx)⟩⟩

theorem past_put {s : SS} {strict : Bool} {dst d : Option Tmp} {v : SV} {w w' : World} : (s.put d v).past strict dst w w' = (s.past strict dst w w').put d v := by
  unfold SS.past
  have : (s.put d v).ws = s.ws := by cases d <;> rfl
  rw [this]
  split
  · rfl
  · split <;> cases d <;> rfl

theorem putK_past {C : Cfg} {gs : List Nat} {s : SS} {strict : Bool} {dst d : Option Tmp} {v : SV} {w w' : World} {K : SS → Prop} (h : putK C gs s d v fun s' => K (s'.past strict dst w w')) : putK C gs (s.past strict dst w w') d v K := by
  unfold putK at h ⊢
  cases d with
  | none => exact h
  | some d =>
    simp only at h ⊢
    cases hb : Nat.blt d C.n <;> simp only [hb, cond_true, cond_false] at h ⊢
    · exact h
    cases hg : memB d gs <;> simp only [hg, cond_true, cond_false] at h ⊢
    · rw [past_put] at h; exact h
    split at h
    · simp only [past_put] at h; exact h
    · simp only [past_put] at h; exact h
    · rename_i h1 h2
      rw [past_put] at h
      exact h

theorem freshI_elim {b : Nat} : ∀ {l : List (Nat × World × World)} {K : Prop}, freshI b l K → (∀ x ∈ l, b < x.2.1.heap.size ∨ x.2.2.heap.size ≤ b) → K
  | [], K, h, _ => h
  | (_, u, u') :: r, K, h, hx => freshI_elim (h (hx (_, u, u') List.mem_cons_self)) fun x hx' => hx x (List.mem_cons_of_mem _ hx')
theorem fresh_elim {C : Cfg} {s : SS} {wp w : World} {K : Prop} (h : fresh s wp w.heap.size K) (hW : WSim C s wp w) : K := by
  unfold fresh at h
  split at h
  · exact h hW.kept.size
  · rename_i u hu
    exact freshI_elim (h (hW.wsK u hu).size) fun x hx => .inr (hW.xsK x hx).size

theorem callOk_run {P : Program} {f : FuncId} (h : callOk P f = true) : Callable P f := by
  intro args w
  unfold callOk at h
  split at h
  · rename_i fn hf
    simp only [Bool.and_eq_true, Bool.not_eq_true'] at h
    obtain ⟨h1, h2⟩ := h
    have h3 : fn.body.isNone = false := by cases hb : fn.body <;> simp_all
    simp only [callFunc, program, Sem.run_bind, Sem.run, Result.andThen_ok, hf, h2, h3, Bool.false_eq_true, if_false]
    rfl
  · simp at h

theorem call_sound {why : String} {C : Cfg} {gs : List Nat} {o : Oper} {g : FuncId} {first cap : List Value} {keys : List Nat} {ts : List TypeId} {strict : Bool} {x : Operand} {args : Array Operand} {ats : Array TypeId} {K : SS → World → Prop} {s : SS} {a : Act} {wp w : World} {next : Act → World → Prop} {Q : Exit → Act → World → Prop}
    (ho : o.op = .call { callee := .value x, args := args, argTypes := ats }) (hno : resOf C s o.dst o.op = .no why) (hx : (s.ev x).toV s.L = some (.func (.func g) first.toArray cap.toArray)) (hcl : Callable C.P g) (h : callVC C gs strict o g first cap keys args.toList ts K s wp) (hS : Sim C s a wp w)
    (hk : ∀ s' a' w' wp', K s' wp' → Sim C s' a' wp' w' → StepRel C strict o.dst (resOf C s o.dst o.op) (isLoadB o.op) s a w s' a' w' → next a' w') : wpy C.P o a w next Q := by
  have hE := evOk_of_sim hS.sl
  unfold callVC at h
  split at h
  · rename_i vs hvs
    have hcall := withLoc_elim hS.w.mem (expo_elim h hS.w)
    have ex := hE.get (x := x) (v := .func (.func g) first.toArray cap.toArray) hx
    have eargs : args.map a.eval = vs.toArray := by apply Array.ext'; simpa using evVs_spec hE hvs
    have hrun : (execOp a.eval o).run C.P w = .ok (.enter g (first ++ vs ++ cap).toArray) w := by
      obtain ⟨d, op, ty, p, af, gd⟩ := o
      simp only at ho
      subst ho
      simp only [execOp, resolve, ex, eargs, Deferred.ofValue, Sem.run_bind, Sem.run_pure, Result.andThen_ok, invoke]
      rw [hcl]
      simp
    unfold wpy
    rw [hrun, upony_enter]
    refine hcall.mono fun e w' he => ?_
    obtain ⟨v, he⟩ := exRes_elim he
    split at he
    · rename_i r hr
      obtain ⟨rfl, hkeep, hput⟩ := he
      obtain ⟨u, h1, h2⟩ := putK_sound (putK_past (K := fun s' => K s' w') hput) (sim_after hS hkeep) (by rw [past_L.1]; exact hr)
      exact hk _ _ _ _ h1 h2 ⟨⟨_, rfl⟩, .inr (.inr (.inr ⟨u, ⟨why, hno⟩, (by rw [ho]; rfl), rfl, hkeep⟩))⟩
    · exact he.elim
  · exact h.elim

theorem cellsAt_elim {w : World} {b : Nat} : ∀ {o : Nat} {vs : List Value} {K : Prop}, cellsAt w b o vs K → K ∧ ∀ i v, vs[i]? = some v → w.cell? ⟨b, o + i, none⟩ = some v
  | o, [], K, h => ⟨h, fun i v hi => by simp at hi⟩
  | o, u :: r, K, h => by
    obtain ⟨h1, h2⟩ := h
    obtain ⟨hK, h3⟩ := cellsAt_elim h2
    refine ⟨hK, fun i v hi => ?_⟩
    cases i with
    | zero => simp at hi; subst hi; exact h1
    | succ i => have := h3 i v (by simpa using hi); rw [show o + (i + 1) = o + 1 + i by omega]; exact this

theorem notIn_spec {b : Nat} : ∀ {l : List Nat}, notIn b l → b ∉ l
  | [], _ => by simp
  | [x], h => by simpa [notIn] using h
  | x :: y :: r, h => by
    obtain ⟨h1, h2⟩ := h
    have := notIn_spec h2
    simp only [List.mem_cons, not_or] at this ⊢
    exact ⟨h1, this⟩

theorem run_loadCellsAt {P : Program} {w : World} {b o : Nat} : ∀ (vs : List Value) (i : Nat) (acc : Array Value), (∀ j v, vs[j]? = some v → w.cell? ⟨b, o + i + j, none⟩ = some v) →
    (loadCellsFrom ⟨b, o, none⟩ i vs.length acc).run P w = .ok (acc ++ vs.toArray) w
  | [], i, acc, h => by simp [loadCellsFrom, go_sem]
  | v :: vs, i, acc, h => by
    have h0 := h 0 v rfl
    have hl : (load ⟨b, o + i, none⟩).run P w = .ok v w := by
      simp only [Nat.add_zero] at h0
      simp [load, Sem.run, h0]
    simp only [List.length_cons, loadCellsFrom, add_spot, Sem.run_bind, hl, Result.andThen_ok]
    rw [run_loadCellsAt vs (i + 1) _ (fun j u hj => by have := h (j + 1) u (by simpa using hj); rw [show o + (i + 1) + j = o + i + (j + 1) by omega]; exact this)]
    congr 1
    apply Array.ext'
    simp

theorem cell_of_keptM {bs : List Nat} {u w : World} {b o : Nat} {v : Value} (hK : KeptM bs u w) (hb : b ∉ bs) (h : u.cell? ⟨b, o, none⟩ = some v) : w.cell? ⟨b, o, none⟩ = some v := by
  have hlt : IsC u b := by
    unfold World.cell? at h
    simp only at h
    split at h
    · rename_i hc; exact ⟨_, _, _, hc⟩
    · simp at h
  have := hK.block b hlt hb
  unfold World.cell? at h ⊢
  simp only [this]
  exact h
theorem refW_kept {C : Cfg} {s : SS} {anc : List Nat} {wp w : World} (hW : WSim C s wp w) (hz : (C.semi && !C.maps && isSomeW s.ws) = false) : KeptM (locs C s) (refW s anc wp) w := by
  unfold refW
  split
  · exact hW.kept.toM
  · rename_i u hu
    have hk : ∀ z, KeptZ C (locs C s) z w → KeptM (locs C s) z w := fun z hz' => by
      cases hm : C.maps
      · have hs : C.semi = false := by rw [hu, hm] at hz; simpa [isSomeW] using hz
        exact (hz'.kept hs).toM
      · exact hz'.keptM hm
    split
    · rename_i x hx; exact hk _ (hW.xsK x (List.mem_of_find?_eq_some hx))
    · exact hk _ (hW.wsK u hu)

theorem load_sound {C : Cfg} {gs anc : List Nat} {strict : Bool} {o : Oper} {t : TypeId} {x : Operand} {b off : Nat} {K : SS → World → Prop} {s : SS} {a : Act} {wp w : World} {next : Act → World → Prop} {Q : Exit → Act → World → Prop}
    (ho : o.op = .load t x) (hx : s.ev x = .pv (.one (.ptr b off))) (h : loadVC C gs anc o.dst t b off K s wp) (hS : Sim C s a wp w)
    (hk : ∀ s' a' w' wp', K s' wp' → Sim C s' a' wp' w' → StepRel C strict o.dst (resOf C s o.dst o.op) (isLoadB o.op) s a w s' a' w' → next a' w') : wpy C.P o a w next Q := by
  have hE := evOk_of_sim hS.sl
  unfold loadVC at h
  cases hz : (C.semi && !C.maps && isSomeW s.ws) <;> simp only [hz, cond_true, cond_false] at h
  rotate_left
  · exact h.elim
  cases hT : hasT C.P t <;> simp only [hT, cond_true, cond_false] at h
  · exact h.elim
  obtain ⟨dd, hd⟩ := hasT_spec hT
  have hagg : ∀ p, exPV C.P t (fun q => q = p) → (isAggB C.P t = true → ∃ l, p = .agg l) ∧ (isAggB C.P t = false → ∃ l, p = .one l) := fun p hp => by
    unfold exPV at hp
    split at hp
    · cases ha : isAggB C.P t <;> simp only [ha, cond_true, cond_false] at hp
      · obtain ⟨l, hl⟩ := exSh_elim hp
        split at hl
        · exact ⟨by simp, fun _ => ⟨_, hl.symm⟩⟩
        · exact hl.elim
      · obtain ⟨l, hl⟩ := exSh_elim hp
        exact ⟨fun _ => ⟨_, hl.symm⟩, by simp⟩
    · exact hp.elim
  obtain ⟨p, hp, hform⟩ : ∃ p, (match toVs s.L p.cells with
    | some vs => bif Nat.beq vs.length (C.P.cellsOf t) then cellsAt (refW s anc wp) b off vs (match locs C s with
      | [] => putK C gs s o.dst (.pv p) fun s' => K s' wp
      | l => (b < C.base ∨ notIn b l) ∧ putK C gs s o.dst (.pv p) fun s' => K s' wp)
      else Unsup "load size"
    | none => Unsup "load cells") ∧ ((isAggB C.P t = true → ∃ l, p = .agg l) ∧ (isAggB C.P t = false → ∃ l, p = .one l)) := by
    unfold exPV at h
    split at h
    · cases ha : isAggB C.P t <;> simp only [ha, cond_true, cond_false] at h
      · obtain ⟨l, hl⟩ := exSh_elim h
        split at hl
        · exact ⟨_, hl, by simp, fun _ => ⟨_, rfl⟩⟩
        · exact hl.elim
      · obtain ⟨l, hl⟩ := exSh_elim h
        exact ⟨_, hl, fun _ => ⟨_, rfl⟩, by simp⟩
    · exact h.elim
  clear h
  split at hp
  · rename_i vs hvs
    cases hlen : Nat.beq vs.length (C.P.cellsOf t) <;> simp only [hlen, cond_true, cond_false] at hp
    · exact hp.elim
    have hlen' := Nat.eq_of_beq_eq_true hlen
    obtain ⟨hp, hcells⟩ := cellsAt_elim hp
    obtain ⟨hput, hb⟩ : putK C gs s o.dst (.pv p) (fun s' => K s' wp) ∧ b ∉ locs C s := by
      split at hp
      · rename_i hl; rw [hl]; exact ⟨hp, by simp⟩
      · refine ⟨hp.2, ?_⟩
        rcases hp.1 with h1 | h1
        · intro hm
          obtain ⟨k, e, _, he, rfl⟩ := mem_locs.1 hm
          have := (hS.w.low k e he).1
          omega
        · exact notIn_spec h1
    have hcw : ∀ i v, vs[i]? = some v → w.cell? ⟨b, off + i, none⟩ = some v := fun i v hi => cell_of_keptM (refW_kept hS.w hz) hb (hcells i v hi)
    have ex := hE.get (x := x) (v := .pointer (some ⟨b, off, none⟩)) (by rw [hx]; rfl)
    obtain ⟨v, hv, hrun⟩ : ∃ v, p.toV s.L = some v ∧ (loadVar t ⟨b, off, none⟩).run C.P w = .ok v w := by
      unfold loadVar
      cases ha : isAggB C.P t
      · obtain ⟨l, rfl⟩ := hform.2 ha
        simp only [PV.cells, toVs] at hvs
        split at hvs <;> simp at hvs
        rename_i u us hu hus
        simp only [Option.some.injEq] at hus
        subst hus; subst hvs
        refine ⟨u, hu, ?_⟩
        have := hcw 0 u rfl
        simp only [Sem.run_bind, isAgg_run hd, ha, Result.andThen_ok, Bool.false_eq_true, if_false]
        simp only [Nat.add_zero] at this
        simp [load, Sem.run, this]
      · obtain ⟨l, rfl⟩ := hform.1 ha
        refine ⟨.agg vs.toArray, by simp only [PV.toV, show toVs s.L l = some vs from hvs], ?_⟩
        simp only [Sem.run_bind, isAgg_run hd, ha, Result.andThen_ok, if_true, cellsOf_run hd, loadCells]
        rw [← hlen', run_loadCellsAt vs 0 #[] (by simpa using hcw)]
        simp [Sem.run_pure]
    have hr : (execOp a.eval o).run C.P w = .ok (.value v) w := by
      obtain ⟨d, op, ty, pp, af, gd⟩ := o
      simp only at ho; subst ho
      simp only [execOp, ex, Instr.loadAt, Instr.sureAddr, Sem.run_bind, Sem.run_pure, hrun, Result.andThen_ok]
    obtain ⟨u, h1, h2⟩ := putK_sound hput hS (show (SV.pv p).toV s.L = some v from hv)
    unfold wpy; rw [hr, upony_value]
    exact hk _ _ _ _ h1 h2 ⟨⟨_, rfl⟩, .inl ⟨u, rfl, rfl⟩⟩
  · exact hp.elim

def rawNext (ts : Option (List TypeId)) (u : Value) : Next :=
  match ts with
  | some _ => .value u
  | none => .skip

theorem raw_run {P : Program} {s : SS} {o : Oper} {m : Sem Value} {ts : Option (List TypeId)} {w w' : World} {u : Value} {ρ : Operand → Value} (hE : EvOk s ρ) (h : rawSem P s o = some (m, ts)) (hm : m.run P w = .ok u w') :
    (execOp ρ o).run P w = .ok (rawNext ts u) w' := by
  obtain ⟨d, op, ty, p, af, gd⟩ := o
  have v1 : ∀ {x : Operand} {c : Value}, (s.ev x).toV s.L = some c → ρ x = c := fun h => hE.get h
  have fin : ∀ {q : Sem Value} {w' : World} {u : Value}, q.run P w = .ok u w' → (do pure (Next.value (← q)) : Sem Next).run P w = .ok (.value u) w' := fun h => by
    simp only [Sem.run_bind, h, Result.andThen_ok, Sem.run_pure]
  have finu : ∀ {q : Sem Unit} {w' : World} {u : Value}, (do q; pure undef : Sem Value).run P w = .ok u w' → (do q; pure Next.skip : Sem Next).run P w = .ok .skip w' := fun {q w' u} h => by
    simp only [Sem.run_bind] at h ⊢
    cases hq : q.run P w with
    | ok x w1 =>
      simp only [hq, Result.andThen_ok, Sem.run_pure, Result.ok.injEq] at h ⊢
      exact ⟨trivial, h.2⟩
    | halt x w1 => simp [hq] at h
  cases op <;> simp only [rawSem, reduceCtorEq] at h
  case store t x y =>
    split at h <;> simp at h
    rename_i a b hx hy
    obtain ⟨rfl, rfl⟩ := h
    simp only [execOp, v1 hx, v1 hy]; exact finu hm
  case binOp op t x y _ =>
    split at h <;> simp at h
    rename_i a b hx hy
    obtain ⟨rfl, rfl⟩ := h
    simp only [execOp, v1 hx, v1 hy]; exact fin hm
  case convert st t x =>
    split at h <;> simp at h
    rename_i a hx
    obtain ⟨rfl, rfl⟩ := h
    simp only [execOp, v1 hx]; exact fin hm
  case makeInterface t x =>
    split at h <;> simp at h
    rename_i a hx
    obtain ⟨rfl, rfl⟩ := h
    simp only [execOp, v1 hx]; exact fin hm
  case lookup t x y ok =>
    split at h <;> simp at h
    rename_i a b k e hx hy ht
    obtain ⟨rfl, rfl⟩ := h
    simp only [execOp, v1 hx, v1 hy]; exact fin hm
  case mapUpdate t m' k x =>
    split at h <;> simp at h
    rename_i a b c hx hy hz
    obtain ⟨rfl, rfl⟩ := h
    simp only [execOp, v1 hx, v1 hy, v1 hz]; exact finu hm
  case insert t m' k x =>
    split at h <;> simp at h
    rename_i a b c hx hy hz
    obtain ⟨rfl, rfl⟩ := h
    simp only [execOp, v1 hx, v1 hy, v1 hz]; exact finu hm
  case mapEntry t x y =>
    split at h <;> simp at h
    rename_i a b k e hx hy ht
    obtain ⟨rfl, rfl⟩ := h
    simp only [execOp, v1 hx, v1 hy]; exact fin hm
  case entryStore t m' k x =>
    split at h <;> simp at h
    rename_i a b c hx hy hz
    obtain ⟨rfl, rfl⟩ := h
    simp only [execOp, v1 hx, v1 hy, v1 hz]; exact finu hm
  case makeMap t r =>
    cases r <;> simp at h
    obtain ⟨rfl, rfl⟩ := h
    simp only [execOp, Option.map_none]; exact fin hm
  case makeSlice t x y =>
    split at h <;> simp at h
    rename_i a b hx hy
    obtain ⟨rfl, rfl⟩ := h
    simp only [execOp, v1 hx, v1 hy]; exact fin hm
  case index t x y =>
    split at h <;> simp at h
    rename_i a b hx hy
    obtain ⟨rfl, rfl⟩ := h
    simp only [execOp, v1 hx, v1 hy]; exact fin hm
  case range t x =>
    split at h <;> simp at h
    rename_i a hx
    obtain ⟨rfl, rfl⟩ := h
    simp only [execOp, v1 hx]; exact fin hm
  case next x str =>
    split at h <;> simp at h
    rename_i a hx
    obtain ⟨rfl, rfl⟩ := h
    simp only [execOp, v1 hx]; exact fin hm
  case entry x =>
    split at h <;> simp at h
    rename_i a hx
    obtain ⟨rfl, rfl⟩ := h
    simp only [execOp, v1 hx]; exact fin hm
  case slice t x lo hi mx =>
    cases lo <;> cases hi <;> cases mx <;> simp only [reduceCtorEq] at h <;> split at h <;> simp at h <;> obtain ⟨rfl, rfl⟩ := h
    · rename_i a hx; simp only [execOp, v1 hx, Option.map_none]; exact fin hm
    · rename_i a b hx hy; simp only [execOp, v1 hx, v1 hy, Option.map_none, Option.map_some]; exact fin hm
    · rename_i a b hx hy; simp only [execOp, v1 hx, v1 hy, Option.map_none, Option.map_some]; exact fin hm
    · rename_i a b c hx hy hz; simp only [execOp, v1 hx, v1 hy, v1 hz, Option.map_none, Option.map_some]; exact fin hm
  case call c =>
    obtain ⟨callee, args, ats⟩ := c
    split at h
    rotate_left
    · simp at h
    rename_i b hb
    simp only at hb
    subst hb
    split at h
    rotate_left
    · simp at h
    rename_i vs hvs
    have ea : args.map ρ = vs.toArray := by apply Array.ext'; simpa using evVs_spec hE hvs
    unfold rawBuiltin at h
    split at h <;> simp at h <;> obtain ⟨rfl, rfl⟩ := h
    all_goals
      simp only [execOp, resolve, ea, Sem.run_bind, Sem.run_pure, Result.andThen_ok, invoke, builtin]
      simp only [hm, Result.andThen_ok, rawNext]

theorem raw_sound {C : Cfg} {gs : List Nat} {strict : Bool} {o : Oper} {why : String} {K : SS → World → Prop} {s : SS} {a : Act} {wp w : World} {next : Act → World → Prop} {Q : Exit → Act → World → Prop}
    (h : rawVC C gs strict o why K s wp) (hno : resOf C s o.dst o.op = .no why) (hil : isLoadB o.op = false) (hS : Sim C s a wp w)
    (hk : ∀ s' a' w' wp', K s' wp' → Sim C s' a' wp' w' → StepRel C strict o.dst (resOf C s o.dst o.op) (isLoadB o.op) s a w s' a' w' → next a' w') : wpy C.P o a w next Q := by
  have hE := evOk_of_sim hS.sl
  unfold rawVC at h
  split at h
  · rename_i m ts hm
    obtain ⟨u, w', hrun, h⟩ := withLoc_elim hS.w.mem (expo_elim h hS.w)
    obtain ⟨v, h⟩ := exRaw_elim h
    split at h
    · rename_i r hr
      obtain ⟨rfl, hkeep, hput⟩ := h
      obtain ⟨x, h1, h2⟩ := putK_sound (putK_past (K := fun s' => K s' w') hput) (sim_after hS hkeep) (by rw [past_L.1]; exact hr)
      unfold wpy; rw [raw_run hE hm hrun, rawNext, upony_value]
      exact hk _ _ _ _ h1 h2 ⟨⟨_, rfl⟩, .inr (.inr (.inr ⟨x, ⟨why, hno⟩, hil, rfl, hkeep⟩))⟩
    · exact h.elim
  · rename_i m hm
    split at h
    · rename_i hd
      obtain ⟨u, w', hrun, hkeep, h⟩ := withLoc_elim hS.w.mem (expo_elim h hS.w)
      unfold wpy; rw [raw_run hE hm hrun, rawNext, upony_skip, hd]
      rw [hd] at h hk hno
      exact hk _ _ _ _ h (sim_after (dst := none) hS hkeep) ⟨⟨undef, rfl⟩, .inr (.inr (.inr ⟨.undef, ⟨why, hno⟩, hil, rfl, hkeep⟩))⟩
    · exact h.elim
  · exact h.elim

theorem yield_sound {why : String} {C : Cfg} {gs : List Nat} {o : Oper} {y : Value} {strict : Bool} {x : Operand} {args : Array Operand} {ats : Array TypeId} {K : SS → World → Prop} {s : SS} {a : Act} {wp w : World} {next : Act → World → Prop} {Q : Exit → Act → World → Prop}
    (ho : o.op = .call { callee := .value x, args := args, argTypes := ats }) (hno : resOf C s o.dst o.op = .no why) (hx : (s.ev x).toV s.L = some y) (h : yieldVC C gs strict o y args.toList K s wp) (hS : Sim C s a wp w)
    (hk : ∀ s' a' w' wp', K s' wp' → Sim C s' a' wp' w' → StepRel C strict o.dst (resOf C s o.dst o.op) (isLoadB o.op) s a w s' a' w' → next a' w') : wpy C.P o a w next Q := by
  have hE := evOk_of_sim hS.sl
  unfold yieldVC at h
  split at h
  · rename_i vs hvs
    obtain ⟨l, rfl, fn, tmps, assign, body, hy, hR⟩ := withLoc_elim hS.w.mem (expo_elim h hS.w)
    have ex := hE.get (x := x) (v := .func (.yield l) #[] #[]) hx
    have eargs : args.map a.eval = vs.toArray := by apply Array.ext'; simpa using evVs_spec hE hvs
    have hrun : (execOp a.eval o).run C.P w = .ok (.round l fn tmps assign body) w := by
      obtain ⟨d, op, ty, p, af, gd⟩ := o
      simp only at ho
      subst ho
      simp only [execOp, resolve, ex, eargs, Deferred.ofValue, Sem.run_bind, Sem.run_pure, Result.andThen_ok, invoke]
      simpa using hy
    unfold wpy
    rw [hrun, upony_round]
    refine hR.mono fun e w' he => ?_
    obtain ⟨b, rfl, hkeep, hput⟩ := he
    obtain ⟨u, h1, h2⟩ := putK_sound (v := .bool b) (putK_past (K := fun s' => K s' w') hput) (sim_after hS hkeep) (by rfl)
    exact hk _ _ _ _ h1 h2 ⟨⟨_, rfl⟩, .inr (.inr (.inr ⟨u, ⟨why, hno⟩, (by rw [ho]; rfl), rfl, hkeep⟩))⟩
  · exact h.elim

theorem esc_sound {why : String} {C : Cfg} {strict : Bool} {o : Oper} {K : SS → World → Prop} {s : SS} {a : Act} {wp w : World} {next : Act → World → Prop} {Q : Exit → Act → World → Prop}
    (ho : isAllocB o.op = true) (hno : resOf C s o.dst o.op = .no why) (h : escVC C strict o K s wp) (hS : Sim C s a wp w)
    (hk : ∀ s' a' w' wp', K s' wp' → Sim C s' a' wp' w' → StepRel C strict o.dst (resOf C s o.dst o.op) (isLoadB o.op) s a w s' a' w' → next a' w') : wpy C.P o a w next Q := by
  have hE := evOk_of_sim hS.sl
  have hP := plain_ok (C := { C with esc := [] }) (w := w) hE hS.w.mem o
  unfold escVC at h
  split at h
  · rename_i d T cells n hd hr
    rw [hr] at hP
    cases hb : Nat.blt d C.n <;> simp only [hb, cond_true, cond_false] at h
    · exact h.elim
    obtain ⟨hone, h⟩ := withOne_spec h
    obtain ⟨vs, hvs, hrun⟩ := hP hone
    rw [hvs] at h
    have h := withLoc_elim hS.w.mem (expo_elim h hS.w) _ _ rfl rfl
    have hdn : d < C.n := by simpa [Nat.blt_eq] using hb
    have hbl : Below w.heap.size w (w.alloc (.cells vs.toArray T (0, 0))) := (Below.refl _ _).alloc (Nat.le_refl _) _
    have hkp : keepP strict C s w (w.alloc (.cells vs.toArray T (0, 0))) := by
      cases strict
      · exact .all hbl
      · unfold keepP
        cases hs : C.semi
        · exact hbl
        · cases hm : C.maps
          · exact .all hbl
          · exact ⟨.all hbl, fun b hb => hbl.block b hb.lt⟩
    have hS' := sim_after (dst := some d) hS hkp
    unfold wpy
    rw [show (execOp a.eval o).run C.P w = _ from hrun, upony_value]
    rw [hd] at hk ⊢
    rw [past_put] at h
    refine hk _ _ _ _ h (hS'.put (fun k hk' => by cases hk'; exact hdn) ?_) ⟨⟨_, rfl⟩, .inr (.inr (.inr ⟨_, ⟨why, by rw [← hd]; exact hno⟩, ?_, rfl, hkp⟩))⟩
    · cases n <;> rfl
    · cases hop : o.op <;> rw [hop] at ho <;> first | rfl | cases ho
  · exact h.elim

theorem run_sound {C : Cfg} {gs anc : List Nat} {strict : Bool} {o : Oper} {K : SS → World → Prop} {s : SS} {a : Act} {wp w : World} {next : Act → World → Prop} {Q : Exit → Act → World → Prop}
    (h : stepRun C gs anc strict o K s wp) (hS : Sim C s a wp w) (hk : ∀ s' a' w' wp', K s' wp' → Sim C s' a' wp' w' → StepRel C strict o.dst (resOf C s o.dst o.op) (isLoadB o.op) s a w s' a' w' → next a' w') : wpy C.P o a w next Q := by
  have hE := evOk_of_sim hS.sl
  have hP := plain_ok (C := C) (w := w) hE hS.w.mem o
  unfold stepRun at h
  split at h
  · rename_i v hv
    rw [hv] at hP
    obtain ⟨u, hr, hu⟩ := hP
    obtain ⟨x, h1, h2⟩ := putK_sound h hS hu
    unfold wpy; rw [hr, upony_value]
    exact hk _ _ _ _ h1 h2 ⟨⟨_, rfl⟩, .inl ⟨x, rfl, rfl⟩⟩
  · rename_i c v hv
    rw [hv] at hP
    obtain ⟨u, hr, hu⟩ := hP h.1
    obtain ⟨x, h1, h2⟩ := putK_sound h.2 hS hu
    unfold wpy; rw [hr, upony_value]
    exact hk _ _ _ _ h1 h2 ⟨⟨_, rfl⟩, .inl ⟨x, rfl, rfl⟩⟩
  · rename_i ad c f hv
    rw [hv] at hP
    obtain ⟨b, off, e1, e2, h⟩ := h
    obtain ⟨u, hr, hu⟩ := hP b off e1 e2
    obtain ⟨x, h1, h2⟩ := putK_sound h hS hu
    unfold wpy; rw [hr, upony_value]
    exact hk _ _ _ _ h1 h2 ⟨⟨_, rfl⟩, .inl ⟨x, rfl, rfl⟩⟩
  · rename_i T cells n hv
    rw [hv] at hP
    split at h
    · rename_i d hd
      cases hb : (Nat.blt d C.n && (!(hasL s.L d) && !(s.ro d))) <;> simp only [hb, cond_true, cond_false] at h
      · exact h.elim
      simp only [Bool.and_eq_true, Bool.not_eq_true'] at hb
      obtain ⟨hone, h⟩ := withOne_spec h
      obtain ⟨vs, hvs, hr⟩ := hP hone
      have hL : s.L d = none := by
        have := hb.2.1; unfold hasL at this; split at this
        · simp at this
        · assumption
      have hdn : d < C.n := by simpa [Nat.blt_eq] using hb.1
      have h1 := fresh_elim (h w.heap.size) hS.w
      unfold wpy; rw [hr, upony_value, hd]
      rw [hd] at hk
      refine hk _ _ _ _ h1 (sim_alloc hS hdn hL hvs ?_) ⟨⟨_, rfl⟩, .inr (.inl ⟨d, T, cells, _, _, ⟨n, by rw [← hd]; exact hv⟩, rfl, hL, rfl, rfl⟩)⟩
      cases n <;> simp [SV.toV, PV.toV, Lf.toV, upd_same]
    · exact h.elim
  · rename_i k off cells hv
    rw [hv] at hP
    split at h
    · rename_i e hd he
      cases hro : s.ro k <;> simp only [hro, cond_true, cond_false] at h
      case true => exact h.elim
      obtain ⟨hone, h⟩ := withOne_spec h
      obtain ⟨vs, h1, h2⟩ := hS.w.mem k e he
      obtain ⟨us, w', hus, hr, hst, hlen⟩ := hP e he hone ⟨_, h2, by simpa using toVs_length h1⟩
      unfold wpy; rw [hr, upony_skip, hd]
      rw [hd] at hk
      exact hk _ _ _ _ h (sim_store hS he hus hst hlen) ⟨⟨undef, rfl⟩, .inr (.inr (.inl ⟨k, e, off, cells, us, (by rw [← hd]; exact hv), rfl, hro, he, rfl, hst⟩))⟩
    · exact h.elim
  · rename_i why hno
    cases hal : isAllocB o.op <;> simp only [hal, cond_true, cond_false] at h
    case true => exact esc_sound hal hno h hS hk
    split at h
    · rename_i why hv f args ats ho
      split at h
      · rename_i g first cap keys hf
        cases hc : callOk C.P g <;> simp only [hc, cond_true, cond_false] at h
        · exact h.elim
        · exact call_sound ho hno (by rw [hf]; rfl) (callOk_run hc) h hS hk
      · rename_i g first cap hf
        exact call_sound ho hno (by rw [hf]; rfl) h.1 h.2 hS hk
      · rename_i y hf
        cases hvc : valCall C o.dst <;> simp only [hvc] at h
        · exact yield_sound ho hno (by rw [hf]; rfl) h hS hk
        · obtain ⟨g, first, cap, rfl, h1, h2⟩ := h
          exact call_sound ho hno (by rw [hf]; rfl) h1 h2 hS hk
      · exact h.elim
    · rename_i why hv t x ho
      split at h
      · rename_i b off hx
        exact load_sound ho hx h hS hk
      · exact h.elim
    · rename_i why hv _ hnl
      exact raw_sound h hno (by cases hop : o.op <;> first | rfl | exact absurd hop (hnl _ _)) hS hk

theorem yielded_of {s : SS} {a : Act} {ops : Array Oper} {j : Nat} {oj : Oper} {t : Tmp} (hS : SimS s a) (h1 : ops[j]? = some oj) (h2 : oj.dst = some t) :
    (∀ b, s.sl t = .pv (.one (.tf b)) → yielded ops a.tmps j = some b) ∧ (s.sl t = .undef → yielded ops a.tmps j = none) := by
  constructor
  · intro b hb
    obtain ⟨v, h3, h4⟩ := hS t (by rw [hb]; simp)
    rw [hb] at h3
    simp [SV.toV, PV.toV, Lf.toV] at h3
    subst h3
    simp [yielded, h1, h2, h4]
  · intro hb
    obtain ⟨v, h3, h4⟩ := hS t (by rw [hb]; simp)
    rw [hb] at h3
    simp [SV.toV] at h3
    subst h3
    simp [yielded, h1, h2, h4, undef]

theorem skip_sound {C : Cfg} {s : SS} {a : Act} {wp w : World} {dst : Option Tmp} {K : SS → World → Prop} (h : skipVC C s dst K wp) (hS : Sim C s a wp w) : K (s.put dst .undef) wp ∧ Sim C (s.put dst .undef) (a.put dst undef) wp w := by
  unfold skipVC at h
  cases dst with
  | none => exact ⟨h, hS⟩
  | some d =>
    simp only at h
    cases hb : Nat.blt d C.n <;> simp only [hb, cond_true, cond_false] at h
    · exact h.elim
    · exact ⟨h, hS.put (fun k hk => by cases hk; simpa [Nat.blt_eq] using hb) rfl⟩

theorem stepG_cases {C : Cfg} {ops : Array Oper} {o : Oper} {run K : SS → World → Prop} {s : SS} {a : Act} {wp : World} (h : stepG C ops o run K s wp) (hS : SimS s a) :
    (Region.wanted o (yielded ops a.tmps) = true ∧ run s wp) ∨ (Region.wanted o (yielded ops a.tmps) = false ∧ skipVC C s o.dst K wp) := by
  unfold stepG at h
  split at h
  · rename_i hg
    exact .inl ⟨by simp [Region.wanted, hg], h⟩
  · rename_i j want hg
    split at h
    · rename_i oj hoj
      split at h
      · rename_i t ht
        obtain ⟨y1, y2⟩ := yielded_of hS hoj ht
        split at h
        · rename_i b hb
          have hy := y1 b hb
          have hw : Region.wanted o (yielded ops a.tmps) = (b == want) := by simp [Region.wanted, hg, hy]
          rw [hw]
          cases hbw : (b == want) <;> simp only [hbw, cond_true, cond_false] at h
          · exact .inr ⟨rfl, h⟩
          · exact .inl ⟨rfl, h⟩
        · rename_i hb
          have hy := y2 hb
          have hw : Region.wanted o (yielded ops a.tmps) = false := by simp [Region.wanted, hg, hy]
          exact .inr ⟨hw, h⟩
        · exact h.elim
      · exact h.elim
    · exact h.elim

theorem step_sound {C : Cfg} {ops : Array Oper} {gs anc : List Nat} {strict : Bool} {o : Oper} {K : SS → World → Prop} {s : SS} {a : Act} {wp w : World} {next : Act → World → Prop} {Q : Exit → Act → World → Prop}
    (h : stepVC C ops gs anc strict o K s wp) (hS : Sim C s a wp w) (hk : ∀ s' a' w' wp', K s' wp' → Sim C s' a' wp' w' → StepRel C strict o.dst (resOf C s o.dst o.op) (isLoadB o.op) s a w s' a' w' → next a' w') :
    if Region.wanted o (yielded ops a.tmps) then wpy C.P o a w next Q else next (a.put o.dst undef) w := by
  rcases stepG_cases h hS.sl with ⟨hw, h⟩ | ⟨hw, h⟩
  · rw [if_pos hw]; exact run_sound h hS hk
  · rw [if_neg (by rw [hw]; simp)]
    obtain ⟨h1, h2⟩ := skip_sound h hS
    exact hk _ _ _ _ h1 h2 ⟨⟨_, rfl⟩, .inl ⟨_, rfl, rfl⟩⟩

/-- The slots that operations write. -/
def opsDst (ops : Array Oper) (d : Nat) : Prop := ∃ (i : Nat) (o : Oper), ops[i]? = some o ∧ o.dst = some d

theorem noDefers_spec {ops : Array Oper} (h : noDefers ops = true) {i : Nat} {o : Oper} (ho : ops[i]? = some o) : ∀ c, o.op ≠ .defer c := by
  refine noDef_spec ?_
  unfold noDefers at h
  rw [List.all_eq_true] at h
  have := h o (by
    rw [Array.mem_toList_iff]
    obtain ⟨hlt, he⟩ := Array.getElem?_eq_some_iff.1 ho
    rw [← he]; exact Array.getElem_mem hlt)
  simpa using this

theorem ops_sound {C : Cfg} {r : Option Nat} {ops : Array Oper} (hnd : noDefers ops = true) {gs : List Nat} {Q : Exit → Act → World → Prop} : ∀ {l : List Nat} {K : SS → World → Prop} {s : SS} {a : Act} {wp w : World}, opsVC C ops gs l K s wp → Sim C s a wp w →
    (∀ s' a' w' wp', K s' wp' → Sim C s' a' wp' w' → FrO C.muts (opsDst ops) s s' → Q .normal a' w') → wpOpsIn (WF r) 0 C.P ops Q l a w
  | [], K, s, a, wp, w, h, hS, hk => hk _ _ _ _ h hS (.refl _ _ _)
  | i :: l, K, s, a, wp, w, h, hS, hk => by
    simp only [opsVC] at h
    simp only [wpOpsIn]
    split at h
    · rename_i hi
      simp only [hi]
      exact ops_sound hnd h hS hk
    · rename_i o ho
      simp only [ho]
      have := step_sound (Q := Q) (next := wpOpsIn (WF r) 0 C.P ops Q l) h hS fun s' a' w' wp' h' hS' hF => ops_sound hnd h' hS' fun s2 a2 w2 wp2 h2 hS2 hF2 => hk _ _ _ _ h2 hS2 ((hF.fr.mono fun d hd => ⟨i, o, ho, hd⟩).trans hF2)
      split
      · rename_i hw; rw [if_pos hw] at this; exact wpIn_of_wpy (noDefers_spec hnd ho) this
      · rename_i hw; rw [if_neg hw] at this; exact ⟨fun _ _ => trivial, this⟩

end Go.Vc
end
section
/- The conditions of a region whose order is drawn. -/
namespace Go.Vc
open Go.RowKit

inductive FK where
  | pure
  | load
  | alloc
  | tied

def isStrT (P : Program) (t : TypeId) : Bool :=
  match P.underlying t with
  | some .string => true
  | _ => false

/-- How an operation may float among others: it works on values alone; it reads memory; it makes a variable; not at all. -/
def fkOp (P : Program) : Op → FK
  | .move _ => .pure
  | .pick _ _ _ => .pure
  | .build _ _ => .pure
  | .nilCheck _ => .pure
  | .unOp _ _ _ => .pure
  | .fieldAddr _ _ _ => .pure
  | .field _ _ _ => .pure
  | .extract _ _ => .pure
  | .indexAddr _ _ _ => .pure
  | .index t _ _ => match P.underlying t with
    | some (.array _ e) => match P.underlying e with
      | some (.int _) => .pure
      | _ => .tied
    | _ => .tied
  | .makeFunc _ _ _ => .pure
  | .binOp _ t _ _ _ => bif isAggB P t then .tied else .pure
  | .convert _ _ _ => .pure
  | .slice _ _ _ _ none => .pure
  | .load _ _ => .load
  | .alloc _ => .alloc
  | .box _ _ => .alloc
  | .buildSlice _ _ _ => .alloc
  | .call { callee := .builtin .len, .. } => .pure
  | .call { callee := .builtin .max, .. } => .pure
  | .call { callee := .builtin .min, .. } => .pure
  | _ => .tied
def fkOf (P : Program) (o : Oper) : FK :=
  match o.dst with
  | some _ => fkOp P o.op
  | none => .tied

def FK.isTied : FK → Bool
  | .tied => true
  | _ => false
def FK.isMem : FK → Bool
  | .load => true
  | .alloc => true
  | _ => false

/-- The operations before one, as bits. -/
def ancMask (acc : List Nat) : List Edge → Nat → Nat
  | [], m => m
  | e :: es, m => bif Region.binds .any e then ancMask acc es (m ||| ((1 <<< e.on) ||| acc.getD e.on 0)) else ancMask acc es m
def ancAll : List Oper → List Nat → List Nat
  | [], acc => acc
  | o :: r, acc => ancAll r (acc ++ [ancMask acc o.after.toList 0])

structure OpI where
  i : Nat
  o : Oper
  k : FK
  m : Nat
  /-- it reads a variable of the call's own -/
  x : Bool

def opIs (P : Program) (ms : List Nat) : Nat → List Oper → List OpI
  | _, [] => []
  | i, o :: r => ⟨i, o, fkOf P o, ms.getD i 0, false⟩ :: opIs P ms (i + 1) r

def inM (x y : OpI) : Bool := Nat.testBit y.m x.i

/-- The tied ones in a row, each behind those before it; the others as late as may be. -/
def lazyGo : List OpI → List OpI → List OpI
  | [], fl => fl
  | t :: ts, fl => (fl.filter fun x => inM x t) ++ t :: lazyGo ts (fl.filter fun x => !(inM x t))
def lazyOrd (l : List OpI) : List OpI := lazyGo (l.filter fun x => x.k.isTied) (l.filter fun x => !x.k.isTied)

def lookTmps : List Operand → List Nat
  | [] => []
  | .tmp t :: r => t :: lookTmps r
  | _ :: r => lookTmps r
/-- The slots that an operation looks at. -/
def looks (ops : Array Oper) (o : Oper) : List Nat :=
  (match o.guard with
   | some (j, _) => match ops[j]? with
     | some oj => match oj.dst with
       | some t => [t]
       | none => []
     | none => []
   | none => []) ++ lookTmps o.op.operands.toList

def dstIn (d : Option Tmp) (l : List Nat) : Bool :=
  match d with
  | some d => memB d l
  | none => false
def dstEq (a b : Option Tmp) : Bool :=
  match a, b with
  | some a, some b => Nat.beq a b
  | _, _ => false

def noDst : Option Tmp → Bool
  | some _ => false
  | none => true

/-- q stands before p. -/
def okPair (ops : Array Oper) (q p : OpI) : Bool :=
  !(Nat.beq q.i p.i) && (!(dstEq q.o.dst p.o.dst) && (!(inM p q) &&
    (bif p.k.isTied then inM q p else
      (inM q p || !(dstIn q.o.dst (looks ops p.o))) && (q.k.isTied || !(dstIn p.o.dst (looks ops q.o))))))
def okPairs (ops : Array Oper) : List OpI → Bool
  | [] => true
  | q :: r => r.all (okPair ops q) && okPairs ops r

def drawOk (ops : Array Oper) (l : List OpI) : Bool :=
  okPairs ops l && ((List.range ops.size).all (fun i => l.any fun x => Nat.beq x.i i) && l.all fun x => !(inM x x) && ((x.k.isTied || !(dstIn x.o.dst (looks ops x.o))) && x.o.after.toList.all fun e => !(Region.binds .any e) || Nat.blt e.on ops.size))

def strictOf (all : List OpI) (x : OpI) : Bool := all.any fun y => (y.k.isMem && !y.x) && (!(Nat.beq y.i x.i) && (!(inM y x) && !(inM x y)))

def ancSlots : List OpI → OpI → List Nat
  | [], _ => []
  | y :: r, x => bif inM y x then match y.o.dst with
    | some d => d :: ancSlots r x
    | none => ancSlots r x
    else ancSlots r x

def findD (t : Nat) : List OpI → Option OpI
  | [] => none
  | x :: r => bif dstEq (some t) x.o.dst then some x else findD t r

def addrOf : Op → Option Operand
  | .fieldAddr _ y _ => some y
  | .nilCheck y => some y
  | .move y => some y
  | .indexAddr _ y _ => some y
  | _ => none

/-- The slot, written before the region, out of which an address was made. -/
def rootOf (all : List OpI) : Nat → Nat → Operand → Option Nat
  | 0, _, _ => none
  | f + 1, m, .tmp t => match findD t all with
    | none => some t
    | some x => bif Nat.testBit m x.i then match addrOf x.o.op with
      | some y => rootOf all f x.m y
      | none => none
      else none
  | _, _, _ => none

def loadOf : Op → Option Operand
  | .load _ x => some x
  | _ => none

def insN (d : Nat) (l : List Nat) : List Nat := bif memB d l then l else d :: l
/-- No operation that is tied stands before it. -/
def noTiedAnc (all : List OpI) (y : OpI) : Bool := all.all fun t => !(t.k.isTied && inM t y)
/-- The roots of the loads that may come before or behind a store. -/
def looseRoots (all : List OpI) (x : OpI) : List OpI → Option (List Nat)
  | [] => some []
  | y :: r => match y.k with
    | .load => bif inM y x || inM x y then looseRoots all x r else match loadOf y.o.op with
      | some a => match rootOf all 8 y.m a, looseRoots all x r with
        | some t, some l => some (insN t l)
        | none, some l => bif noTiedAnc all y then some l else none
        | _, none => none
      | none => none
    | _ => looseRoots all x r
def zeroT (P : Program) : Op → Bool
  | .load t _ => Nat.beq (P.cellsOf t) 0
  | _ => true
/-- A load whose address was loaded in the same region, and that a store may come before or behind. -/
def far (all : List OpI) (y : OpI) : Bool :=
  match loadOf y.o.op with
  | some z => match rootOf all 8 y.m z with
    | none => noTiedAnc all y && all.any fun t => t.k.isTied && (noDst t.o.dst && (!(inM t y) && !(inM y t)))
    | some _ => false
  | none => false

def rootsVC (C : Cfg) (s : SS) (k : Nat) (e : LocE) (K : Prop) : List Nat → Prop
  | [] => K
  | t :: r => match s.sl t with
    | .pv (.one (.loc k' _)) => bif Nat.beq k' k then Unsup "a load and a store meet" else rootsVC C s k e K r
    | .pv (.one (.lsl k' _ _ _)) => bif Nat.beq k' k then Unsup "a load and a store meet" else rootsVC C s k e K r
    | .pv (.one (.ptr b _)) => (b < C.base ∨ b ≠ e.b) ∧ rootsVC C s k e K r
    | .pv (.one (.sl a _ _)) => (∀ ad : Addr, a = some ad → ad.block < C.base ∨ ad.block ≠ e.b) ∧ rootsVC C s k e K r
    | _ => Unsup "the root of an address"

def allocDsts : List OpI → List Nat
  | [] => []
  | y :: r => match y.k, y.o.dst with
    | .alloc, some d => d :: allocDsts r
    | _, _ => allocDsts r

def runD (C : Cfg) (gs : List Nat) (all : List OpI) (x : OpI) (K : SS → World → Prop) (s : SS) (wp : World) : Prop :=
  match x.k with
  | .pure => match resOf C s x.o.dst x.o.op with
    | .val _ => stepRun C gs [] false x.o K s wp
    | .cond _ _ => stepRun C gs [] false x.o K s wp
    | .ex _ _ _ => stepRun C gs [] false x.o K s wp
    | .no why => Unsup why
    | _ => Unsup "a floating operation"
  | .load => match loadOf x.o.op with
    | some y => match s.ev y with
      | .pv (.one (.loc k _)) => bif memB k (allocDsts all) then Unsup "a load from a variable made in the same region" else bif far all x then Unsup "a variables load by an address that was loaded" else stepRun C gs (ancSlots all x) false x.o K s wp
      | .pv (.one (.ptr _ _)) => bif x.x then Unsup "a load that was thought to be of a variable" else bif far all x && zeroT C.P x.o.op then Unsup "a load of nothing" else stepRun C gs (ancSlots all x) false x.o K s wp
      | _ => Unsup "a load"
    | none => Unsup "a load"
  | .alloc => match resOf C s x.o.dst x.o.op with
    | .alloc _ _ _ => stepRun C gs [] false x.o K s wp
    | .no why => Unsup why
    | _ => Unsup "a variable"
  | .tied => match resOf C s x.o.dst x.o.op with
    | .store k _ _ => match s.L k, looseRoots all x all with
      | some e, some l => rootsVC C s k e (stepRun C gs [] (strictOf all x) x.o K s wp) l
      | _, _ => Unsup "a store among loads"
    | .no _ => bif isLoadB x.o.op || (strictOf all x && noDst x.o.dst) then Unsup "an operation among floating ones" else stepRun C gs [] (strictOf all x) x.o K s wp
    | .alloc _ _ _ => Unsup "a variable without a slot"
    | _ => stepRun C gs [] (strictOf all x) x.o K s wp

def dVC (C : Cfg) (ops : Array Oper) (gs : List Nat) (all : List OpI) : List OpI → (SS → World → Prop) → SS → World → Prop
  | [], K, s, wp => K s wp
  | x :: r, K, s, wp => stepG C ops x.o (runD C gs all x (dVC C ops gs all r K)) (dVC C ops gs all r K) s wp

def floatDsts : List OpI → List Nat
  | [] => []
  | y :: r => bif y.k.isTied then floatDsts r else match y.o.dst with
    | some d => d :: floatDsts r
    | none => floatDsts r

def SS.begin (s : SS) (wp : World) (ds : List Nat) : SS := { s with sl := fun d => bif memB d ds then .none else s.sl d, ws := some wp, xs := [] }
def SS.fin (s : SS) : SS := { s with ws := none, xs := [] }

def dstLt (n : Nat) : Option Tmp → Bool
  | some d => Nat.blt d n
  | none => true

/-- It reads one of the call's own variables, that was there before the region. -/
def exTest (s : SS) (all : List OpI) (y : OpI) : Bool :=
  match y.k with
  | .load => match loadOf y.o.op with
    | some z => match rootOf all 8 y.m z with
      | some t => match s.sl t with
        | .pv (.one (.loc _ _)) => true
        | _ => false
      | none => false
    | none => false
  | _ => false
def markEx (f : OpI → Bool) : List OpI → List OpI
  | [] => []
  | y :: r => ⟨y.i, y.o, y.k, y.m, f y⟩ :: markEx f r

/-- It reads nothing but the call's own variables. -/
def noLoad (y : OpI) : Bool :=
  match y.k with
  | .load => y.x
  | _ => true
def drawVC (C : Cfg) (ops : Array Oper) (K : SS → World → Prop) (s : SS) (wp : World) : Prop :=
  let l0 := opIs C.P (ancAll ops.toList []) 0 ops.toList
  let all := lazyOrd (markEx (exTest s l0) l0)
  bif drawOk ops all && (all.all (fun y => !y.x || exTest s all y)) && (!C.semi || C.maps || all.all noLoad) && (all.all (fun x => dstLt C.n x.o.dst) && (C.P.follows .mixedOrders && noDefers ops)) then dVC C ops (guardSlots ops) all all (fun s' wp' => K s'.fin wp') (s.begin wp (floatDsts all)) wp else Unsup "a drawn region"

/-- The operations before one, found in some rounds, whatever order they stand in. -/
def ancStep (ms : List Nat) : List Oper → List Nat
  | [] => []
  | o :: r => ancMask ms o.after.toList 0 :: ancStep ms r
def ancIt (l : List Oper) : Nat → List Nat
  | 0 => ancAll l []
  | n + 1 => ancStep (ancIt l n) l
def insT (x : OpI) : List OpI → List OpI
  | [] => [x]
  | y :: r => bif inM x y then x :: y :: r else y :: insT x r
def sortT : List OpI → List OpI
  | [] => []
  | x :: r => insT x (sortT r)
def lazyOrdT (l : List OpI) : List OpI := lazyGo (sortT (l.filter fun x => x.k.isTied)) (l.filter fun x => !x.k.isTied)
/-- Two tied ones of which neither stands before the other. -/
def badWith (q : OpI) : List OpI → Option Nat
  | [] => none
  | p :: r => bif inM q p || inM p q then badWith q r else some p.i
def badPair : List OpI → Option (Nat × Nat)
  | [] => none
  | q :: r => match badWith q r with
    | some j => some (q.i, j)
    | none => badPair r
/-- Operation j comes behind operation i. -/
def addE : List Oper → Nat → Nat → List Oper
  | [], _, _ => []
  | o :: r, 0, i => { o with after := ({ on := i, ground := .data } :: o.after.toList).toArray } :: r
  | o :: r, j + 1, i => o :: addE r j i
def tiedIs (P : Program) (ops : Array Oper) : List OpI := (opIs P (ancIt ops.toList 4) 0 ops.toList).filter fun x => x.k.isTied
def drawAll (C : Cfg) (ops : Array Oper) (s : SS) : List OpI :=
  let l0 := opIs C.P (ancIt ops.toList 4) 0 ops.toList
  lazyOrdT (markEx (exTest s l0) l0)
def drawVCa (C : Cfg) (ops : Array Oper) (all : List OpI) (K : SS → World → Prop) (s : SS) (wp : World) : Prop :=
  bif drawOk ops all && (all.all (fun y => !y.x || exTest s all y)) && (!C.semi || C.maps || all.all noLoad) && (all.all (fun x => dstLt C.n x.o.dst) && (C.P.follows .mixedOrders && noDefers ops)) then dVC C ops (guardSlots ops) all all (fun s' wp' => K s'.fin wp') (s.begin wp (floatDsts all)) wp else Unsup "a drawn region"
/-- A drawn region in which tied operations are not ordered: each of their orders. -/
def drawS (C : Cfg) : Nat → Array Oper → (SS → World → Prop) → SS → World → Prop
  | 0, _, _, _, _ => Unsup "a drawn region of too many orders"
  | n + 1, ops, K, s, wp => match badPair (tiedIs C.P ops) with
    | none => drawVCa C ops (drawAll C ops s) K s wp
    | some p => bif !(Nat.beq p.1 p.2) && (Nat.blt p.1 ops.size && Nat.blt p.2 ops.size) then drawS C n (addE ops.toList p.2 p.1).toArray K s wp ∧ drawS C n (addE ops.toList p.1 p.2).toArray K s wp else Unsup "a drawn region"

/-- An assignment to a slot that nothing in the region looks at moves a value, and may float. -/
def floatOp (lk : List Nat) (o : Oper) : Oper :=
  match o.op, o.dst with
  | .assign x, some d => bif memB d lk then o else { o with op := .move x }
  | _, _ => o
def allLooks : List Oper → List Nat
  | [] => []
  | o :: r => lookTmps o.op.operands.toList ++ allLooks r
def floatL (lk : List Nat) : List Oper → List Oper
  | [] => []
  | o :: r => floatOp lk o :: floatL lk r
def Cfg.opsF (C : Cfg) (ops : Array Oper) : Array Oper := bif hasKey C.joins 9000000 then (floatL (allLooks ops.toList) ops.toList).toArray else ops
def drawR (C : Cfg) (ops : Array Oper) (K : SS → World → Prop) (s : SS) (wp : World) : Prop := bif hasKey C.joins 11000000 then drawS C 4 ops K s wp else drawVC C ops K s wp

end Go.Vc
end
section
/- The conditions of code. -/
namespace Go.Vc
open Go.RowKit

def insD (d : Nat) : List Nat → List Nat
  | [] => [d]
  | x :: xs => bif Nat.blt d x then d :: x :: xs else bif Nat.beq d x then x :: xs else x :: insD d xs

def regDsts (ops : Array Oper) (acc : List Nat) : List Nat := ops.toList.foldl (fun acc o => match o.dst with | some d => insD d acc | none => acc) acc

/-- The slots that code writes. -/
def dsts : Code → List Nat → List Nat
  | .region _ ops _, acc => regDsts ops acc
  | .seq a b, acc => dsts b (dsts a acc)
  | .cond _ a b, acc => dsts b (dsts a acc)
  | .block _ c, acc => dsts c acc
  | .loop c, acc => dsts c acc
  | .scope c, acc => dsts c acc
  | .rangeFunc _ ps a b, acc => dsts b (dsts a (ps.toList.foldl (fun acc d => insD d acc) acc))
  | _, acc => acc

/-- The variables over which a slice lies that lives on into a loop: from there on they are memory like any other. -/
def lslKeys : List Lf → List Nat
  | [] => []
  | .lsl k _ _ _ :: r => k :: lslKeys r
  | _ :: r => lslKeys r
def escKeys (s : SS) : List Nat → List Nat
  | [] => []
  | d :: md => lslKeys (s.sl d).lfs ++ escKeys s md

def escLf (L : Nat → Option LocE) (ks : List Nat) : Lf → Lf
  | .loc k o => bif memB k ks then match L k with
    | some e => .ptr e.b o
    | none => .loc k o
    else .loc k o
  | .lsl k o n c => bif memB k ks then match L k with
    | some e => .sl (some ⟨e.b, o, none⟩) n c
    | none => .lsl k o n c
    else .lsl k o n c
  | l => l
def escPV (L : Nat → Option LocE) (ks : List Nat) : PV → PV
  | .one l => .one (escLf L ks l)
  | .agg cs => .agg (cs.map (escLf L ks))
def escSV (L : Nat → Option LocE) (ks : List Nat) : SV → SV
  | .pv p => .pv (escPV L ks p)
  | .tup vs => .tup (vs.map (escPV L ks))
  | v => v
def SS.esc (s : SS) (ks : List Nat) : SS :=
  match ks with
  | [] => s
  | _ => { s with sl := fun d => escSV s.L ks (s.sl d), L := fun k => bif memB k ks then none else match s.L k with
    | some e => some { e with cells := e.cells.map (escLf s.L ks) }
    | none => none }

/-- May these variables be let go of here? -/
def escOk (C : Cfg) (s : SS) (ks : List Nat) : Bool :=
  match ks with
  | [] => true
  | _ => (ks.all fun k => !(s.ro k) && !(memB k C.muts)) && (List.range C.n).all fun k => match s.L k with
    | some e => !(s.ro k) || (lfKeys e.cells).all fun j => !(memB j ks)
    | none => true

/-- For every content of the shape. -/
def havLf : Lf → (Lf → Prop) → Prop
  | .int k _, K => ∀ n : Int, K (.int k n)
  | .cmp _ _ _, K => ∀ b : Bool, K (.bool b)
  | .bool _, K => ∀ b : Bool, K (.bool b)
  | .tf _, K => ∀ b : Bool, K (.bool b)
  | .str _, K => ∀ b : ByteArray, K (.str b)
  | .sl _ _ _, K => ∀ (a : Option Addr) (n c : Nat), K (.sl a n c)
  | .ptr _ _, K => ∀ a : Option Addr, K (.op a)
  | .op _, K => ∀ a : Option Addr, K (.op a)
  | .map _, K => ∀ r : Nat, K (.map r)
  | .val _, K => ∀ v : Value, K (.val v)
  | .vk _ _, K => ∀ v : Value, K (.val v)
  | l, K => K l
def havLfs : List Lf → (List Lf → Prop) → Prop
  | [], K => K []
  | l :: r, K => havLf l fun l' => havLfs r fun r' => K (l' :: r')

/-- A content in the shape of another. -/
def normLf (L0 L : Nat → Option LocE) : Lf → Lf → Option Lf
  | .int k _, .int k' n => bif kEq k k' then some (.int k n) else none
  | .cmp _ _ _, l => match l.asB with | some b => some (.bool b) | none => none
  | .bool _, l => match l.asB with | some b => some (.bool b) | none => none
  | .tf _, l => match l.asB with | some b => some (.bool b) | none => none
  | .str _, .str b => some (.str b)
  | .sl _ _ _, .sl a n c => some (.sl a n c)
  | .sl _ _ _, .lsl k o n c => match L k with | some e => some (.sl (some ⟨e.b, o, Option.none⟩) n c) | none => none
  | .ptr _ _, l => match l.toV L with | some (.pointer a) => some (.op a) | _ => none
  | .op _, l => match l.toV L with | some (.pointer a) => some (.op a) | _ => none
  | .map _, .map r => some (.map r)
  | .val _, l => match l.toV L with | some v => some (.val v) | none => none
  | .vk _ _, l => match l.toV L with | some v => some (.val v) | none => none
  | .loc k o, .loc k' o' => bif Nat.beq k k' && (Nat.beq o o' && hasL L0 k) then some (.loc k o) else none
  | _, _ => none
def normLfs (L0 L : Nat → Option LocE) : List Lf → List Lf → Option (List Lf)
  | [], [] => some []
  | l :: r, l' :: r' => match normLf L0 L l l', normLfs L0 L r r' with
    | some x, some xs => some (x :: xs)
    | _, _ => none
  | _, _ => none

def isFnLf : Lf → Bool
  | .fn _ _ _ _ => true
  | .fv _ _ _ => true
  | .lsl _ _ _ _ => true
  | _ => false

/-- A slot at a loop's head: nothing known, or any content of the shape. -/
def havSV : SV → (SV → List Lf → Prop) → Prop
  | .pv (.one l), K => bif isFnLf l then K .none [] else havLf l fun l' => K (.pv (.one l')) [l']
  | .pv (.agg ls), K => havLfs ls fun ls' => K (.pv (.agg ls')) ls'
  | _, K => K .none []
def normSV (L0 L : Nat → Option LocE) : SV → SV → Option (SV × List Lf)
  | .pv (.one l), v => bif isFnLf l then some (.none, []) else match v with
    | .pv (.one l') => match normLf L0 L l l' with
      | some x => some (.pv (.one x), [x])
      | none => Option.none
    | _ => Option.none
  | .pv (.agg ls), v => match v with
    | .pv (.agg ls') => match normLfs L0 L ls ls' with
      | some xs => some (.pv (.agg xs), xs)
      | none => Option.none
    | _ => Option.none
  | _, _ => some (.none, [])

def allSlots (s0 : SS) : List Nat → SS → List Lf → (SS → List Lf → Prop) → Prop
  | [], s, acc, K => K s acc
  | d :: md, s, acc, K => havSV (s0.sl d) fun v ls => allSlots s0 md { s with sl := upd s.sl d v } (acc ++ ls) K
def allKeys (s0 : SS) : List Nat → SS → List Lf → (SS → List Lf → Prop) → Prop
  | [], s, acc, K => K s acc
  | k :: ks, s, acc, K => match s0.L k with
    | some e => havLfs e.cells fun cs => allKeys s0 ks { s with L := upd s.L k (some { e with cells := cs }) } (acc ++ cs) K
    | none => allKeys s0 ks s acc K

def slotLeaves (s0 s : SS) : List Nat → Option (List Lf)
  | [] => some []
  | d :: md => match normSV s0.L s.L (s0.sl d) (s.sl d), slotLeaves s0 s md with
    | some (_, ls), some r => some (ls ++ r)
    | _, _ => none
def keyLeaves (s0 s : SS) : List Nat → Option (List Lf)
  | [] => some []
  | k :: ks => match s0.L k with
    | none => keyLeaves s0 s ks
    | some e => match s.L k with
      | none => none
      | some e' => match normLfs s0.L s.L e.cells e'.cells, keyLeaves s0 s ks with
        | some ls, some r => some (ls ++ r)
        | _, _ => none
def leavesAt (s0 s : SS) (md ks : List Nat) : Option (List Lf) :=
  match slotLeaves s0 s md, keyLeaves s0 s ks with
  | some a, some b => some (a ++ b)
  | _, _ => none

def SS.lock (s : SS) (ks : List Nat) : SS := { s with ro := fun k => s.ro k || (hasL s.L k && !(memB k ks)), ws := none, xs := [] }

def isCtl : Obj → Bool
  | .loop _ => true
  | .deferred _ => true
  | _ => false

/-- All that a program can see of the blocks of w is in w' as it was; and all that lay below B. -/
structure CalmFrom (B : Nat) (w w' : World) : Prop where
  os : w'.os = w.os
  tape : w'.tape = w.tape
  output : w'.output = w.output
  size : w.heap.size ≤ w'.heap.size
  keep : ∀ k o, w.heap[k]? = some o → (isCtl o = false ∨ k < B) → w'.heap[k]? = some o

/-- The same, where blocks of the iterator's own may change. -/
structure CalmX (G : Nat → Prop) (B : Nat) (w w' : World) : Prop where
  os : w'.os = w.os
  tape : w'.tape = w.tape
  output : w'.output = w.output
  size : w.heap.size ≤ w'.heap.size
  keep : ∀ k o, w.heap[k]? = some o → (isCtl o = false ∨ k < B) → ¬ G k → w'.heap[k]? = some o
def calmR (f : Bool) (G : Nat → Prop) (B : Nat) (w w' : World) : Prop :=
  match f with
  | true => CalmX G B w w'
  | false => CalmFrom B w w'
/-- What a round of a range over a function does for its iterator. -/
structure RoundKeeps (G : Nat → Prop) (w w' : World) : Prop where
  os : w'.os = w.os
  tape : w'.tape = w.tape
  output : w'.output = w.output
  size : w.heap.size ≤ w'.heap.size
  keep : ∀ b, G b → w'.heap[b]? = w.heap[b]?

/-- THE CONTRACT OF AN ITERATOR that yields xs, one after another, as long as it is let: for whatever rounds (J: between two of them, so many being done; Jx: one has said 'no more'). G: blocks of the iterator's own. -/
def Iter (P : Program) (gf : FuncId) (first cap : List Value) (xs : List (List Value)) (Inv : World → Prop) : Prop :=
  ∀ (l : Nat) (J Jx : (Nat → Prop) → Nat → World → Prop) (W : World),
    (∀ G k w G' w', J G k w → CalmFrom W.heap.size w w' → (∀ b, G b → G' b) → (∀ b, G' b → G b ∨ w.heap.size ≤ b ∧ b < w'.heap.size) → J G' k w') →
    (∀ G k w G' w', Jx G k w → CalmFrom W.heap.size w w' → (∀ b, G b → G' b) → (∀ b, G' b → G b ∨ w.heap.size ≤ b ∧ b < w'.heap.size) → Jx G' k w') →
    (∀ G k w, J G k w → Inv w) →
    (∀ G k x w, J G k w → (∀ b, G b → W.heap.size ≤ b ∧ b < w.heap.size) → xs[k]? = some x → YieldAt Fence.wide 0 P l x.toArray w fun e w' =>
      ∃ t : Bool, e = .returned (.bool t) ∧ RoundKeeps G w w' ∧ (t = true → J G (k + 1) w') ∧ (t = false → Jx G (k + 1) w')) →
    J (fun _ => False) 0 W →
    Calls P gf (first ++ [Value.func (.yield l) #[] #[]] ++ cap).toArray W fun e W' => (∃ v, e = .returned v) ∧ ∃ G, J G xs.length W' ∨ ∃ k, Jx G k W'

/-- THE SAME of an iterator that may change blocks of its own between two rounds. -/
def IterX (P : Program) (gf : FuncId) (first cap : List Value) (xs : List (List Value)) (Inv : World → Prop) : Prop :=
  ∀ (l : Nat) (J Jx : (Nat → Prop) → Nat → World → Prop) (W : World),
    (∀ G k w G' w', J G k w → CalmX G W.heap.size w w' → (∀ b, G b → G' b) → (∀ b, G' b → G b ∨ w.heap.size ≤ b ∧ b < w'.heap.size) → J G' k w') →
    (∀ G k w G' w', Jx G k w → CalmX G W.heap.size w w' → (∀ b, G b → G' b) → (∀ b, G' b → G b ∨ w.heap.size ≤ b ∧ b < w'.heap.size) → Jx G' k w') →
    (∀ G k w, J G k w → Inv w) →
    (∀ G k x w, J G k w → (∀ b, G b → W.heap.size ≤ b ∧ b < w.heap.size) → xs[k]? = some x → YieldAt Fence.wide 0 P l x.toArray w fun e w' =>
      ∃ t : Bool, e = .returned (.bool t) ∧ RoundKeeps G w w' ∧ (t = true → J G (k + 1) w') ∧ (t = false → Jx G (k + 1) w')) →
    J (fun _ => False) 0 W →
    Calls P gf (first ++ [Value.func (.yield l) #[] #[]] ++ cap).toArray W fun e W' => (∃ v, e = .returned v) ∧ ∃ G, J G xs.length W' ∨ ∃ k, Jx G k W'

/-- The types of what an iterator yields. -/
def yieldTypes (P : Program) (gf : FuncId) (n : Nat) : Option (List TypeId) :=
  match P.funcs[gf]? with
  | some fn => match fn.params[n]? with
    | some t => match P.underlying t with
      | some (.func ps _ _) => some ps.toList
      | _ => none
    | none => none
  | none => none

def putAll (s : SS) : List Nat → List PV → SS
  | d :: ds, v :: vs => putAll { s with sl := upd s.sl d (.pv v) } ds vs
  | _, _ => s

def hasRF : Code → Bool
  | .rangeFunc _ _ _ _ => true
  | .seq a b => hasRF a || hasRF b
  | .cond _ a b => hasRF a || hasRF b
  | .block _ c => hasRF c
  | .loop c => hasRF c
  | .scope c => hasRF c
  | _ => false

/-- The state behind a range over a function. -/
def SS.left (s s0 : SS) (G : Nat → Prop) : SS := { s with sl := s0.sl, ro := s0.ro, rf := true, rnd := s0.rnd, gh := G, pg := s0.pg, pw := s0.pw, ws := none, xs := [] }

def pureH (C : Cfg) (w : World) (K : Prop) : Prop :=
  match C.pure with
  | true => Below C.base C.w0 w → K
  | false => K

/-- THE SAME of an iterator whose values are only known where they are yielded: N of them; Y: what may come as the k-th in a world. -/
def IterY (P : Program) (gf : FuncId) (first cap : List Value) (N : Nat) (Y : Nat → List Value → World → Prop) (Inv : World → Prop) : Prop :=
  ∀ (l : Nat) (J Jx : (Nat → Prop) → Nat → World → Prop) (W : World),
    (∀ G k w G' w', J G k w → CalmFrom W.heap.size w w' → (∀ b, G b → G' b) → (∀ b, G' b → G b ∨ w.heap.size ≤ b ∧ b < w'.heap.size) → J G' k w') →
    (∀ G k w G' w', Jx G k w → CalmFrom W.heap.size w w' → (∀ b, G b → G' b) → (∀ b, G' b → G b ∨ w.heap.size ≤ b ∧ b < w'.heap.size) → Jx G' k w') →
    (∀ G k w, J G k w → Inv w) →
    (∀ G k x w, J G k w → (∀ b, G b → W.heap.size ≤ b ∧ b < w.heap.size) → k < N → Y k x w → YieldAt Fence.wide 0 P l x.toArray w fun e w' =>
      ∃ t : Bool, e = .returned (.bool t) ∧ RoundKeeps G w w' ∧ (t = true → J G (k + 1) w') ∧ (t = false → Jx G (k + 1) w')) →
    J (fun _ => False) 0 W →
    Calls P gf (first ++ [Value.func (.yield l) #[] #[]] ++ cap).toArray W fun e W' => (∃ v, e = .returned v) ∧ ∃ G, J G N W' ∨ ∃ k, Jx G k W'

/-- THE SAME of an iterator that may change blocks of its own between two rounds. -/
def IterYX (P : Program) (gf : FuncId) (first cap : List Value) (N : Nat) (Y : Nat → List Value → World → Prop) (Inv : World → Prop) : Prop :=
  ∀ (l : Nat) (J Jx : (Nat → Prop) → Nat → World → Prop) (W : World),
    (∀ G k w G' w', J G k w → CalmX G W.heap.size w w' → (∀ b, G b → G' b) → (∀ b, G' b → G b ∨ w.heap.size ≤ b ∧ b < w'.heap.size) → J G' k w') →
    (∀ G k w G' w', Jx G k w → CalmX G W.heap.size w w' → (∀ b, G b → G' b) → (∀ b, G' b → G b ∨ w.heap.size ≤ b ∧ b < w'.heap.size) → Jx G' k w') →
    (∀ G k w, J G k w → Inv w) →
    (∀ G k x w, J G k w → (∀ b, G b → W.heap.size ≤ b ∧ b < w.heap.size) → k < N → Y k x w → YieldAt Fence.wide 0 P l x.toArray w fun e w' =>
      ∃ t : Bool, e = .returned (.bool t) ∧ RoundKeeps G w w' ∧ (t = true → J G (k + 1) w') ∧ (t = false → Jx G (k + 1) w')) →
    J (fun _ => False) 0 W →
    Calls P gf (first ++ [Value.func (.yield l) #[] #[]] ++ cap).toArray W fun e W' => (∃ v, e = .returned v) ∧ ∃ G, J G N W' ∨ ∃ k, Jx G k W'

/-- THE SAME as IterY, where what holds between two rounds may name how many are done. -/
def IterK (P : Program) (gf : FuncId) (first cap : List Value) (N : Nat) (Y : Nat → List Value → World → Prop) (Inv : Nat → World → Prop) : Prop :=
  ∀ (l : Nat) (J Jx : (Nat → Prop) → Nat → World → Prop) (W : World),
    (∀ G k w G' w', J G k w → CalmFrom W.heap.size w w' → (∀ b, G b → G' b) → (∀ b, G' b → G b ∨ w.heap.size ≤ b ∧ b < w'.heap.size) → J G' k w') →
    (∀ G k w G' w', Jx G k w → CalmFrom W.heap.size w w' → (∀ b, G b → G' b) → (∀ b, G' b → G b ∨ w.heap.size ≤ b ∧ b < w'.heap.size) → Jx G' k w') →
    (∀ G k w, J G k w → Inv k w) →
    (∀ G k x w, J G k w → (∀ b, G b → W.heap.size ≤ b ∧ b < w.heap.size) → k < N → Y k x w → YieldAt Fence.wide 0 P l x.toArray w fun e w' =>
      ∃ t : Bool, e = .returned (.bool t) ∧ RoundKeeps G w w' ∧ (t = true → J G (k + 1) w') ∧ (t = false → Jx G (k + 1) w')) →
    J (fun _ => False) 0 W →
    Calls P gf (first ++ [Value.func (.yield l) #[] #[]] ++ cap).toArray W fun e W' => (∃ v, e = .returned v) ∧ ∃ G, J G N W' ∨ ∃ k, Jx G k W'

def Cfg.ownIt (C : Cfg) : Bool := hasKey C.joins 12000000
/-- The rounds of a range over a function: pre: what is known of the value of a round; fin: that it is over. -/
def rangeR (C : Cfg) (keys : List Nat) (ls0 : List Lf) (ts : List TypeId) (ps : List Nat) (assign body : (Ex → SS → World → Prop) → SS → World → Prop) (K : Ex → SS → World → Prop) (s : SS) (wp : World)
    (pre : Nat → List Value → World → Prop → Prop) (fin : Nat → Prop → Prop) (I : (Nat → Prop) → List Lf → Nat → World → Prop) (Inv : Nat → World → Prop) : Prop :=
  let s0 := s.lock C.muts
  (expo C s wp fun w => withLoc s.L w (keys ++ C.muts) (I s.gh ls0 0 w)) ∧
  allSlots s0 [] s0 [] fun s1 l1 => allKeys s0 C.muts s1 l1 fun s2 ls =>
        ∀ (k : Nat) (G0 G : Nat → Prop) (w0 w : World), I G0 ls k w0 → calmR C.ownIt G0 C.base w0 w → (∀ b, G0 b → G b) → (∀ b, G b → G0 b ∨ w0.heap.size ≤ b) → (∀ b, G b → C.base ≤ b ∧ b < w.heap.size) → pureH C w (
          Inv k w ∧
          (∀ x, pre k x w (exPVs C.P ts fun l => match pvs s2.L l with
            | some vs => x = vs ∧ ∀ (rl : Nat) (rw : World),
                assign (fun e s3 wp3 => match e with
                  | .normal => expo C s3 wp3 fun w3 => ∀ w4, CalmFrom C.base w3 w4 → ∀ rw' : World, body (fun e s5 wp5 => match e with
                    | .normal => match leavesAt s0 s5 [] C.muts with
                      | some ls' => expo C s5 wp5 fun w5 => I G ls' (k + 1) w5
                      | none => Unsup "a round ends in another shape"
                    | e => expo C s5 wp5 fun w5 => ∀ (G' : Nat → Prop) (w6 : World), calmR C.ownIt G C.base w5 w6 → (∀ b, G b → G' b) → K e (s5.left s G') w6) { s3 with ws := none, xs := [], pw := rw' } w4
                  | _ => Unsup "an assignment to the variables of a range") (putAll { s2 with gh := G, rf := false, rnd := some rl, pg := G, pw := rw } ps l) w
            | none => Unsup "what is yielded")) ∧
          fin k (K .normal (s2.left s G) w))
def rangeB (yb : Bool) (C : Cfg) (gf : FuncId) (first cap : List Value) (keys : List Nat) (ls0 : List Lf) (ps : List Nat) (assign body : (Ex → SS → World → Prop) → SS → World → Prop) (K : Ex → SS → World → Prop) (s : SS) (wp : World) : Prop :=
  bif !(callOk C.P gf) then Unsup "a range over a function without a body" else match yieldTypes C.P gf first.length with
  | some ts => bif !(Nat.beq ts.length ps.length && ps.all fun d => Nat.blt d C.n) then Unsup "the variables of a range over a function" else
    match yb with
    | false => ∃ (xs : List (List Value)) (I : (Nat → Prop) → List Lf → Nat → World → Prop) (Inv : World → Prop),
      (match C.ownIt with | true => IterX C.P gf first cap xs Inv | false => Iter C.P gf first cap xs Inv) ∧ rangeR C keys ls0 ts ps assign body K s wp (fun k x _ Q => xs[k]? = some x → Q) (fun k Q => k = xs.length → Q) I (fun _ => Inv)
    | true => match hasKey C.joins 13000000 && !C.ownIt with
      | true => ∃ (N : Nat) (Y : Nat → List Value → World → Prop) (I : (Nat → Prop) → List Lf → Nat → World → Prop) (Inv : Nat → World → Prop),
        IterK C.P gf first cap N Y Inv ∧ rangeR C keys ls0 ts ps assign body K s wp (fun k x w Q => k < N → Y k x w → Q) (fun k Q => k = N → Q) I Inv
      | false => ∃ (N : Nat) (Y : Nat → List Value → World → Prop) (I : (Nat → Prop) → List Lf → Nat → World → Prop) (Inv : World → Prop),
        (match C.ownIt with | true => IterYX C.P gf first cap N Y Inv | false => IterY C.P gf first cap N Y Inv) ∧ rangeR C keys ls0 ts ps assign body K s wp (fun k x w Q => k < N → Y k x w → Q) (fun k Q => k = N → Q) I (fun _ => Inv)
  | none => Unsup "the type of an iterator"

/-- The function that is ranged over, where it is a value that a call has returned (by the configuration). -/
def rngF : List (Nat × List (Nat × TypeId)) → Option Nat
  | [] => none
  | (k, _) :: r => bif Nat.blt 5999999 k && Nat.blt k 7000000 then some (Nat.sub k 6000000) else rngF r
def rangeVC (C : Cfg) (g : Operand) (ps : List Nat) (assign body : (Ex → SS → World → Prop) → SS → World → Prop) (K : Ex → SS → World → Prop) (s : SS) (wp : World) : Prop :=
  let s0 := s.lock C.muts
  match leavesAt s0 s0 [] C.muts, s.ev g with
  | some ls0, .pv (.one (.fn gf first cap keys)) => rangeB false C gf first cap keys ls0 ps assign body K s wp
  | some ls0, .pv (.one (.val v)) => match rngF C.joins with
    | some g0 => ∃ cap : List Value, v = .func (.func g0) #[] cap.toArray ∧ rangeB true C g0 [] cap [] ls0 ps assign body K s wp
    | none => Unsup "what is ranged over"
  | none, _ => Unsup "a range over a function begins in another shape"
  | _, _ => Unsup "what is ranged over"

def hasNx : Code → Bool
  | .region _ ops _ => ops.any fun o => match o.op with
    | .next _ _ => true
    | _ => false
  | .seq a b => hasNx a || hasNx b
  | .cond _ a b => hasNx a || hasNx b
  | .block _ c => hasNx c
  | _ => false

/-- The variables whose content is told where a round ends. -/
def Cfg.giveK (C : Cfg) (md : List Nat) (s : SS) : List Nat := bif hasKey C.joins 10000000 then md.flatMap fun d => lfKeysF (s.sl d).lfs else []
/-- A round of a loop: I: what holds where it begins; B: what must hold where it ends. -/
def roundVC (C : Cfg) (rfb : Bool) (md : List Nat) (body : (Ex → SS → World → Prop) → SS → World → Prop) (K : Ex → SS → World → Prop) (s s0 : SS) (I : List Lf → World → Prop) (B : List Lf → List Lf → World → Prop) : Prop :=
  allSlots s0 md s0 [] fun s1 l1 => allKeys s0 C.muts s1 l1 fun s2 ls =>
    let go := body (fun e s' wp' => match e with
      | .normal => bif !(rfb || s0.rf) && s'.rf then Unsup "a range over a function in a loop" else match leavesAt s0 s' md C.muts with
        | some ls' => expo C s' wp' fun w' => withLoc s'.L w' (C.giveK md s') (B ls ls' w')
        | none => Unsup "the loops round ends in another shape"
      | e => K e { s' with ro := s.ro } wp')
    let go2 := fun (s2 : SS) => match C.pure with
      | true => ∀ w, Below C.base C.w0 w → I ls w → go s2 w
      | false => ∀ w, I ls w → go s2 w
    match rfb || s0.rf with
    | true => ∀ G : Nat → Prop, (∀ b, s0.gh b → G b) → go2 { s2 with rf := true, gh := G }
    | false => go2 s2

def loopVC (C : Cfg) (rfb nx : Bool) (md : List Nat) (body : (Ex → SS → World → Prop) → SS → World → Prop) (K : Ex → SS → World → Prop) (s : SS) (wp : World) : Prop :=
  let s0 := (s.esc (escKeys s md)).lock C.muts
  bif !(escOk C s (escKeys s md)) then Unsup "a slice over a variable that an outer loop keeps" else
  match leavesAt s0 s0 md C.muts with
  | some ls0 => match nx with
    | false => ∃ (I : List Lf → World → Prop) (μ : List Lf → Nat),
      (expo C s wp fun w => withLoc s.L w (md.flatMap fun d => lfKeysF (s.sl d).lfs) (I ls0 w)) ∧
      roundVC C rfb md body K s s0 I fun ls ls' w' => I ls' w' ∧ μ ls' < μ ls
    | true => ∃ (J : Nat → List Lf → World → Prop),
      (expo C s wp fun w => withLoc s.L w (md.flatMap fun d => lfKeysF (s.sl d).lfs) (∃ n, J n ls0 w)) ∧
      ∀ n : Nat, roundVC C rfb md body K s s0 (J n) fun _ ls' w' => ∃ n' : Nat, n' < n ∧ J n' ls' w'
  | none => Unsup "the loop begins in another shape"

/-- An example of a type's shape. -/
def shLf : Sh → Lf
  | .int k => .int k 0
  | .bool => .bool false
  | .str => .str ByteArray.empty
  | .sl => .sl none 0 0
  | .ptr => .op none
  | .map => .map 0
  | .val => .val .nilFunc
def exemSV (P : Program) (t : TypeId) : SV :=
  match shapeOf P 8 t with
  | some sh => bif isAggB P t then .pv (.agg (sh.map shLf)) else match sh with
    | [x] => .pv (.one (shLf x))
    | _ => .none
  | none => .none
def findT : List (Nat × TypeId) → Nat → Option TypeId
  | [], _ => none
  | (d, t) :: r, x => bif Nat.beq d x then some t else findT r x
def exem (P : Program) (carry : List (Nat × TypeId)) (d : Nat) : SV :=
  match findT carry d with
  | some t => exemSV P t
  | none => .none
def joinOf : List (Nat × List (Nat × TypeId)) → Nat → Option (List (Nat × TypeId))
  | [], _ => none
  | (k, c) :: r, x => bif Nat.beq k x then some c else joinOf r x
/-- Where the ways of a test, or of a block, come together: J: what holds there of the slots that live on. -/
def joinVC (C : Cfg) (md : List Nat) (carry : List (Nat × TypeId)) (run : (Ex → SS → World → Prop) → SS → World → Prop) (K : Ex → SS → World → Prop) (s : SS) (wp : World) : Prop :=
  let s0 := { s with ro := fun k => s.ro k || (hasL s.L k && !(memB k C.muts)) }
  let sx := { s0 with sl := fun d => bif memB d md then exem C.P carry d else s0.sl d, ws := none, xs := [] }
  bif s.rf then Unsup "a join behind a range over a function" else
  ∃ J : List Lf → World → Prop,
    run (fun e s' wp' => match e with
      | .normal => bif s'.rf then Unsup "a range over a function ahead of a join" else match leavesAt sx s' md C.muts with
        | some ls => expo C s' wp' fun w' => withLoc s'.L w' (md.flatMap fun d => lfKeysF (s'.sl d).lfs) (J ls w')
        | none => Unsup "a join in another shape"
      | e => K e { s' with ro := s.ro } wp') s0 wp ∧
    allSlots sx md sx [] fun s1 l1 => allKeys sx C.muts s1 l1 fun s2 ls => match C.pure with
      | true => ∀ w, Below C.base C.w0 w → J ls w → K .normal { s2 with ro := s.ro } w
      | false => ∀ w, J ls w → K .normal { s2 with ro := s.ro } w
def tmpOf : Operand → Nat
  | .tmp t => t
  | _ => 999999

def vc (C : Cfg) : Code → (Ex → SS → World → Prop) → SS → World → Prop
  | .skip, K, s, wp => K .normal s wp
  | .region id ops true, K, s, wp =>
    let run := fun (K : Ex → SS → World → Prop) (s : SS) (wp : World) => drawR C (C.opsF ops) (K .normal) s wp
    match joinOf C.joins (2000000 + id) with
    | none => run K s wp
    | some carry => joinVC C (regDsts ops []) carry run K s wp
  | .region id ops false, K, s, wp =>
    let run := fun (K : Ex → SS → World → Prop) (s : SS) (wp : World) => bif noDefers ops then opsVC C ops (guardSlots ops) (List.range ops.size) (K .normal) s wp else Unsup "a deferred call"
    match joinOf C.joins (2000000 + id) with
    | none => run K s wp
    | some carry => joinVC C (regDsts ops []) carry run K s wp
  | .seq a b, K, s, wp => vc C a (fun e s wp => match e with
    | .normal => vc C b K s wp
    | e => K e s wp) s wp
  | .cond c a b, K, s, wp =>
    let run := fun (K : Ex → SS → World → Prop) (s : SS) (wp : World) => match s.ev c with
      | .pv (.one (.tf true)) => vc C a K s wp
      | .pv (.one (.tf false)) => vc C b K s wp
      | .pv (.one (.bool x)) => (x = true → vc C a K s wp) ∧ (x = false → vc C b K s wp)
      | .pv (.one (.cmp c x y)) => (c.p x y → vc C a K s wp) ∧ (c.no.p x y → vc C b K s wp)
      | _ => Unsup "a test"
    match joinOf C.joins (tmpOf c) with
    | none => run K s wp
    | some carry => joinVC C (dsts b (dsts a [])) carry run K s wp
  | .block id c, K, s, wp =>
    let run := fun (K : Ex → SS → World → Prop) (s : SS) (wp : World) => vc C c (fun e s wp => match e with
      | .exit i => bif Nat.beq i id then K .normal s wp else K (.exit i) s wp
      | e => K e s wp) s wp
    match joinOf C.joins (1000000 + id) with
    | none => run K s wp
    | some carry => joinVC C (dsts c []) carry run K s wp
  | .exit id, K, s, wp => K (.exit id) s wp
  | .ret, K, s, wp => K .ret s wp
  | .loop body, K, s, wp => loopVC C (hasRF body) (hasNx body || C.idx) (dsts body []) (fun K => vc C body K) K s wp
  | .rangeFunc g ps assign body, K, s, wp => rangeVC C g ps.toList (fun K => vc C assign K) (fun K => vc C body K) K s wp
  | _, _, _, _ => Unsup "code of a form that is not served"

/-- The results, read where the function ends. -/
def retPVs (P : Program) (s : SS) : List ResultVar → Option (List PV)
  | [] => some []
  | .tmp t :: r => match s.sl t, retPVs P s r with
    | .pv p, some l => some (p :: l)
    | _, _ => none
  | .cell t ty :: r => match s.sl t, retPVs P s r with
    | .pv (.one (.loc k o)), some l => match s.L k with
      | some e => match partOf P ty o e.cells with
        | some p => some (p :: l)
        | none => none
      | none => none
    | _, _ => none

def retSV : List PV → SV
  | [p] => .pv p
  | l => .tup l

/-- A result that is read from memory. -/
def ResIs (P : Program) (t : TypeId) (b o : Nat) (v : Value) (w : World) : Prop :=
  (∃ x, w.heap[b]? = some x ∧ isCtl x = false) ∧ ∀ w' : World, w'.heap[b]? = w.heap[b]? → (loadVar t ⟨b, o, none⟩).run P w' = .ok v w'
def retMem (C : Cfg) (rs : List ResultVar) (R : Ending → World → Prop) (s : SS) (wp : World) : Prop :=
  match rs with
  | [.cell t ty] => match s.sl t with
    | .pv (.one (.ptr b o)) => expo C s wp fun w => ∃ v, ResIs C.P ty b o v w ∧ (match s.rf with
      | true => ∀ w', CalmFrom C.base w w' → R (.returned v) w'
      | false => R (.returned v) w)
    | _ => Unsup "a result in memory"
  | _ => Unsup "a result in memory and others"

def retVC (C : Cfg) (fn : Func) (R : Ending → World → Prop) (e : Ex) (s : SS) (wp : World) : Prop :=
  match e with
  | .exit _ => Unsup "an exit that leads nowhere"
  | _ => match retPVs C.P s fn.results.toList with
    | some l => match (retSV l).toV s.L with
      | some v => expo C s wp fun w => withLoc s.L w (lfKeysF (retSV l).lfs) (match s.rf with
        | true => ∀ w', CalmFrom C.base w w' → R (.returned v) w'
        | false => R (.returned v) w)
      | none => Unsup "a result"
    | none => retMem C fn.results.toList R s wp

def argSlots : List SV → Nat → Nat → SV
  | [], _ => fun _ => .none
  | v :: r, i => upd (argSlots r (i + 1)) i v

/-- What a call of a function asks, with joins. -/
def funVCJ (P : Program) (f : FuncId) (fn : Func) (c : Code) (pure : Bool) (wrapAt muts esc : List Nat) (joins : List (Nat × List (Nat × TypeId))) (args : List SV) (R : Ending → World → Prop) (w : World) : Prop :=
  vc { P := P, n := fn.ntmps, base := w.heap.size, w0 := w, pure := pure, wrapAt := wrapAt, muts := muts, esc := esc, joins := joins } c (retVC { P := P, n := fn.ntmps, base := w.heap.size, w0 := w, pure := pure, wrapAt := wrapAt, muts := muts, esc := esc, joins := joins } fn R)
    { sl := fun d => bif Nat.blt d args.length then argSlots args 0 d else bif Nat.blt d fn.ntmps then .undef else .none, L := fun _ => none, ro := fun _ => false, ws := none, xs := [], rf := false, rnd := none, gh := fun _ => False, pg := fun _ => False, pw := w } w

/-- What a call of a function asks. -/
def funVC (P : Program) (f : FuncId) (fn : Func) (c : Code) (pure : Bool) (wrapAt muts esc : List Nat) (args : List SV) (R : Ending → World → Prop) (w : World) : Prop :=
  vc { P := P, n := fn.ntmps, base := w.heap.size, w0 := w, pure := pure, wrapAt := wrapAt, muts := muts, esc := esc } c (retVC { P := P, n := fn.ntmps, base := w.heap.size, w0 := w, pure := pure, wrapAt := wrapAt, muts := muts, esc := esc } fn R)
    { sl := fun d => bif Nat.blt d args.length then argSlots args 0 d else bif Nat.blt d fn.ntmps then .undef else .none, L := fun _ => none, ro := fun _ => false, ws := none, xs := [], rf := false, rnd := none, gh := fun _ => False, pg := fun _ => False, pw := w } w

end Go.Vc
end
