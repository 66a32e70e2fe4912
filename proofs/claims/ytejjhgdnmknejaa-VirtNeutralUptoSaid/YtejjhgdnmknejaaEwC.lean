/- Quiet E-operations: their terms, their values, and that the model's operations come to just these. -/
import Derived.Test.YtejjhgdnmknejaaEwB
import Derived.Laws.Entries
import Derived.Laws.Pointers
import Derived.Laws.Cover3
import Derived.Lib.ConvBytes
namespace Go.EW
open Go

/-- Quiet operations: sizes and offsets are worked out. -/
inductive QOp where
  | mov (x : Opd)
  | pick (c a b : Opd)
  | bin (op : BinOp) (x y : Opd)
  | un (op : UnOp) (x : Opd)
  | cnv (k : IntKind) (x : Opd)
  | eqb (neg : Bool) (x y : Opd)
  | eqp (neg : Bool) (x : Opd)
  | eqi (neg : Bool) (x : Opd)
  | eqa (neg : Bool) (len : Nat) (k : IntKind) (x y : Opd)
  | eqs (neg : Bool) (k1 : IntKind) (len : Nat) (k2 : IntKind) (x y : Opd)
  | alloc (ty : TypeId) (z : List Value)
  | box (ty : TypeId) (x : Opd)
  | build (z : List Value) (parts : List (Nat × Nat × Opd))
  | bsl (es : Nat) (z : List Value) (len : Nat) (parts : List (Nat × Opd))
  | bsr (ty : TypeId) (es : Nat) (z : List Value) (len : Nat) (parts : List (Nat × Opd))
  | ldc (x : Opd)
  | lda (n : Nat) (x : Opd)
  | nilc (x : Opd)
  | s2a (n es : Nat) (x : Opd)
  | fad (off : Nat) (x : Opd)
  | fgc (off : Nat) (x : Opd)
  | fga (off n : Nat) (x : Opd)
  | iad (len es : Nat) (x i : Opd)
  | isl (es : Nat) (x i : Opd)
  | ssl (es : Nat) (x : Opd) (lo hi : Option Opd)
  | sar (len : Nat) (x : Opd) (lo hi : Option Opd)
  | ext (i : Nat) (x : Opd)
  | mkf (f : FuncId) (caps : List Opd)
  | mki (t : TypeId) (x : Opd)
  | len (x : Opd)
  | lens (x : Opd)
  | sst (x : Opd) (lo hi : Option Opd)
  | mks (ty : TypeId) (es bytes : Nat) (z : List Value) (l c : Opd)
  | b2s (x : Opd)
  | s2b (x : Opd)
  | ixs (x i : Opd)
  | minmax (mx : Bool) (xs : List Opd)
  deriving Inhabited

structure St where
  T : List EV
  H : Nat → Option EO
  n : Nat

/-! ### memory read -/
def gptr : FV → Option (List EC)
  | .lit (.pointer (some ⟨g, k, none⟩)) => (gcells g).map fun cs => (cs.map EC.fz).drop k
  | _ => none
/-- The cells that a pointer leads to, from its place on. -/
def cellsAt (H : Nat → Option EO) : EC → Option (List EC)
  | .ptr o k => match H o with
    | some (.box _ cs) => some (cs.drop k)
    | _ => none
  | .eptr o es i k => match H o with
    | some (.row _ es' xs) => if es' = es then (xs[i]?).map fun x => (x.map EC.fz).drop k else none
    | _ => none
  | .fptr cs k => some ((cs.map EC.fz).drop k)
  | .fz x => gptr x
  | _ => none

/-- .. where they run over more than one element. -/
def cellsRun (H : Nat → Option EO) : EC → Option (List EC)
  | .eptr o es i k => match H o with
    | some (.row _ es' xs) => if es' = es then some ((xs.flatten.drop (i * es + k)).map EC.fz) else none
    | _ => none
  | _ => none
def cellsAtN (H : Nat → Option EO) (n : Nat) (p : EC) : Option (List EC) := (cellsAt H p).bind fun cs => if n ≤ cs.length then some cs else cellsRun H p

/-- The elements of a slice. -/
def elemsF (es : Nat) : FV → Option (List (List FV))
  | .sl es' xs => if es' = es then some xs else none
  | .lit (.slice none 0 0) => some []
  | _ => none
def elemsOf (H : Nat → Option EO) (es : Nat) : EC → Option (List (List FV))
  | .fz x => elemsF es x
  | .row o len => match H o with
    | some (.row _ es' xs) => if es' = es then some (xs.take len) else none
    | _ => none
  | _ => none

def frz : EC → Option FV
  | .fz x => some x
  | _ => none
def frzAll : List EC → Option (List FV)
  | [] => some []
  | x :: r => (frz x).bind fun a => (frzAll r).map (a :: ·)

/-- The elements of a slice of whatever kind. -/
def elems2 (H : Nat → Option EO) (es : Nat) : EC → Option (List (List FV))
  | .bsl o k len => match H o with
    | some (.box _ cs) => if es = 1 ∧ k + len ≤ cs.length then (frzAll ((cs.drop k).take len)).map fun fs => fs.map fun x => [x] else none
    | _ => none
  | c => elemsOf H es c

def isNum (v : Value) : Option Int :=
  match v with
  | .int _ n => some n
  | _ => none

def lenOf : EC → Option Nat
  | .fz (.sl _ xs) => some xs.length
  | .fz (.lit (.slice none 0 0)) => some 0
  | .row _ len => some len
  | .bsl _ _ len => some len
  | .rsl _ _ len => some len
  | _ => none

def putAt (cs : List EC) (off n : Nat) (x : List EC) : Option (List EC) :=
  if x.length = n ∧ off + n ≤ cs.length then some (cs.take off ++ x ++ cs.drop (off + n)) else none
def putParts (T : List EV) : List EC → List (Nat × Nat × Opd) → Option (List EC)
  | cs, [] => some cs
  | cs, (off, n, x) :: r => (asCells (ev T x)).bind fun c => (putAt cs off n c).bind fun cs' => putParts T cs' r

def setParts (T : List EV) (es : Nat) : List (List FV) → List (Nat × Opd) → Option (List (List FV))
  | xs, [] => some xs
  | xs, (i, x) :: r => (asCells (ev T x)).bind fun c => (frzAll c).bind fun c' => if c'.length = es ∧ i < xs.length then setParts T es (xs.set i c') r else none

def bnd (T : List EV) (d : Nat) : Option Opd → Option Nat
  | none => some d
  | some x => (asLit (ev T x)).bind fun v => (isNum v).bind fun n => if 0 ≤ n then some n.toNat else none

def bytesOf : List (List FV) → Option (List Int)
  | [] => some []
  | [.lit (.int .u8 n)] :: r => (bytesOf r).map (n :: ·)
  | _ => none
def strOf (ns : List Int) : ByteArray := ⟨(ns.map fun n => UInt8.ofNat n.toNat).toArray⟩

/-- A string's bytes. -/
def strB (s : ByteArray) : List (List FV) := s.data.toList.map fun b => [.lit (.int .u8 b.toNat)]
def intsOf (k : IntKind) : List EC → Option (List Int)
  | [] => some []
  | .fz (.lit (.int k' n)) :: r => if k' = k then (intsOf k r).map (n :: ·) else none
  | _ => none

/-- A number, and a row of numbers behind it. -/
def intS2 (k1 k2 : IntKind) : List EC → Option (Int × List Int)
  | .fz (.lit (.int k n)) :: r => if k = k1 then (intsOf k2 r).map (n, ·) else none
  | _ => none

def lits (T : List EV) : List Opd → Option (List Value)
  | [] => some []
  | x :: r => (asLit (ev T x)).bind fun v => (lits T r).map (v :: ·)

def capsOf (T : List EV) : List Opd → Option (List (Nat × Nat))
  | [] => some []
  | x :: r => match asC (ev T x) with
    | some (.ptr o k) => (capsOf T r).map ((o, k) :: ·)
    | _ => none

def eqiv : Value → Option Bool
  | .nilIface => some true
  | .iface _ _ => some false
  | _ => none
def eqpv : EC → Option Bool
  | .fz (.lit (.pointer none)) => some true
  | .ptr _ _ => some false
  | .eptr _ _ _ _ => some false
  | .fptr _ _ => some false
  | .fz (.lit (.pointer (some _))) => some false
  | _ => none
def notNil : EC → Bool
  | .ptr _ _ | .eptr _ _ _ _ | .fptr _ _ | .clo _ _ => true
  | .fz (.lit (.pointer (some _))) => true
  | _ => false

/-- A quiet operation's value, and the object that it makes. -/
def evQ (q : QOp) (T : List EV) (H : Nat → Option EO) (id : Nat) : Option (EV × Option EO) :=
  match q with
  | .mov x => some (ev T x, none)
  | .pick c a b => match asLit (ev T c) with
    | some (.bool c) => some (if c then ev T a else ev T b, none)
    | _ => none
  | .bin op x y => (asLit (ev T x)).bind fun u => (asLit (ev T y)).bind fun v => (pbin op u v).map fun r => (.lit r, none)
  | .un op x => (asLit (ev T x)).bind fun u => (pun op u).map fun r => (.lit r, none)
  | .cnv k x => (asLit (ev T x)).bind fun u => (isNum u).map fun n => (.lit (.int k (k.wrap n)), none)
  | .eqb neg x y => match asLit (ev T x), asLit (ev T y) with
    | some (.bool a), some (.bool b) => some (.lit (.bool (if neg then !(a == b) else a == b)), none)
    | _, _ => none
  | .eqp neg x => (asC (ev T x)).bind fun c => (eqpv c).map fun b => (.lit (.bool (if neg then !b else b)), none)
  | .eqi neg x => (asLit (ev T x)).bind fun v => (eqiv v).map fun b => (.lit (.bool (if neg then !b else b)), none)
  | .eqa neg len k x y => (asAg (ev T x)).bind fun cs => (intsOf k cs).bind fun xs => (asAg (ev T y)).bind fun ds => (intsOf k ds).bind fun ys =>
    if xs.length = len ∧ ys.length = len then some (.lit (.bool (if neg then !decide (xs = ys) else decide (xs = ys))), none) else none
  | .eqs neg k1 len k2 x y => (asAg (ev T x)).bind fun cs => (intS2 k1 k2 cs).bind fun p => (asAg (ev T y)).bind fun ds => (intS2 k1 k2 ds).bind fun q =>
    if p.2.length = len ∧ q.2.length = len then some (.lit (.bool (if neg then !decide (p.1 = q.1 ∧ p.2 = q.2) else decide (p.1 = q.1 ∧ p.2 = q.2))), none) else none
  | .alloc ty z => some (.v (.c (.ptr id 0)), some (.box ty (z.map litc)))
  | .box ty x => (asCells (ev T x)).map fun cs => (.v (.c (.ptr id 0)), some (.box ty cs))
  | .build z parts => (putParts T (z.map litc) parts).map fun cs => (.v (.agg cs), none)
  | .bsl es z len parts => (setParts T es (List.replicate len (z.map FV.lit)) parts).map fun xs => (.v (.c (.fz (.sl es xs))), none)
  | .bsr ty es z len parts => (setParts T es (List.replicate len (z.map FV.lit)) parts).map fun xs => (.v (.c (.row id xs.length)), some (.row ty es xs))
  | .ldc x => (asC (ev T x)).bind fun p => (cellsAt H p).bind fun cs => (cs[0]?).map fun c => (.v (.c c), none)
  | .lda n x => (asC (ev T x)).bind fun p => (cellsAtN H n p).bind fun cs => if n ≤ cs.length then some (.v (.agg (cs.take n)), none) else none
  | .nilc x => (asC (ev T x)).bind fun p => if notNil p then some (.v (.c p), none) else none
  | .s2a n es x => match asC (ev T x) with
    | some (.row o len) => match H o with
      | some (.row _ es' _) => if es' = es ∧ 0 < n ∧ n ≤ len then some (.v (.c (.eptr o es 0 0)), none) else none
      | _ => none
    | _ => none
  | .fad off x => match asC (ev T x) with
    | some (.ptr o k) => some (.v (.c (.ptr o (k + off))), none)
    | some (.eptr o es i k) => some (.v (.c (.eptr o es i (k + off))), none)
    | some (.fptr cs k) => some (.v (.c (.fptr cs (k + off))), none)
    | some (.fz (.lit (.pointer (some ⟨g, k, none⟩)))) => some (.v (.c (.fz (.lit (.pointer (some ⟨g, k + off, none⟩))))), none)
    | _ => none
  | .fgc off x => (asAg (ev T x)).bind fun cs => (cs[off]?).map fun c => (.v (.c c), none)
  | .fga off n x => (asAg (ev T x)).bind fun cs => if off + n ≤ cs.length then some (.v (.agg ((cs.drop off).take n)), none) else none
  | .iad len es x i => (asLit (ev T i)).bind fun iv => (isNum iv).bind fun i =>
    if 0 ≤ i ∧ i < (len : Int) then match asC (ev T x) with
      | some (.ptr o k) => some (.v (.c (.ptr o (k + i.toNat * es))), none)
      | some (.eptr o es' j k) => some (.v (.c (.eptr o es' j (k + i.toNat * es))), none)
      | some (.fptr cs k) => some (.v (.c (.fptr cs (k + i.toNat * es))), none)
      | some (.fz (.lit (.pointer (some ⟨g, k, none⟩)))) => some (.v (.c (.fz (.lit (.pointer (some ⟨g, k + i.toNat * es, none⟩))))), none)
      | _ => none
    else none
  | .isl es x i => (asLit (ev T i)).bind fun iv => (isNum iv).bind fun i =>
    if 0 ≤ i then match asC (ev T x) with
      | some (.fz (.sl es' xs)) => if es' = es then (xs[i.toNat]?).map fun y => (.v (.c (.fptr y 0)), none) else none
      | some (.row o len) => match H o with
        | some (.row _ es' _) => if es' = es ∧ i < (len : Int) then some (.v (.c (.eptr o es i.toNat 0)), none) else none
        | _ => none
      | some (.bsl o k len) => if es = 1 ∧ i < (len : Int) then some (.v (.c (.ptr o (k + i.toNat))), none) else none
      | _ => none
    else none
  | .ssl es x lo hi => (asC (ev T x)).bind fun c => (lenOf c).bind fun len => (bnd T 0 lo).bind fun l => (bnd T len hi).bind fun h =>
    if l ≤ h ∧ h ≤ len then match c with
      | .fz (.sl es' xs) => if es' = es then some (.v (.c (.fz (.sl es ((xs.take h).drop l)))), none) else none
      | .fz (.lit (.slice none 0 0)) => some (.v (.c c), none)
      | .row o _ => if l = 0 then some (.v (.c (.row o h)), none) else if es = 1 ∧ l < len then some (.v (.c (.rsl o l (h - l))), none) else none
      | .bsl o k _ => if es = 1 ∧ (l < len ∨ l = 0) then some (.v (.c (.bsl o (k + l) (h - l))), none) else none
      | _ => none
    else none
  | .sar len x lo hi => match asC (ev T x) with
    | some (.ptr o k) => (bnd T 0 lo).bind fun l => (bnd T len hi).bind fun h => if l ≤ h ∧ h ≤ len ∧ l < len then some (.v (.c (.bsl o (k + l) (h - l))), none) else none
    | _ => none
  | .ext i x => match ev T x with
    | .tup ts => (ts[i]?).map fun t => (.v t, none)
    | _ => none
  | .mkf f caps => (capsOf T caps).map fun cs => (.v (.c (.clo f cs)), none)
  | .mki t x => (asLit (ev T x)).map fun v => (.lit (.iface t v), none)
  | .len x => (asC (ev T x)).bind fun c => (lenOf c).map fun (n : Nat) => (EV.lit (.int .i64 (n : Int)), none)
  | .lens x => match asLit (ev T x) with
    | some (.string s) => some (.lit (.int .i64 (s.size : Int)), none)
    | _ => none
  | .sst x lo hi => match asLit (ev T x) with
    | some (.string s) => (bnd T 0 lo).bind fun l => (bnd T s.size hi).bind fun h => if l ≤ h ∧ h ≤ s.size then some (.lit (.string (s.extract l h)), none) else none
    | _ => none
  | .mks ty es bytes z l c => (asLit (ev T l)).bind fun lv => (isNum lv).bind fun l => (asLit (ev T c)).bind fun cv => (isNum cv).bind fun c =>
    if 0 ≤ l ∧ l ≤ c ∧ c * bytes ≤ 140737488355328 ∧ c ≤ 9223372036854775807 ∧ 0 < es then some (.v (.c (.row id l.toNat)), some (.row ty es (List.replicate l.toNat (z.map FV.lit)))) else none
  | .b2s x => (asC (ev T x)).bind fun c => (elems2 H 1 c).bind fun xs => (bytesOf xs).map fun bs => (.lit (.string (strOf bs)), none)
  | .s2b x => match asLit (ev T x) with
    | some (.string s) => some (.v (.c (.fz (.sl 1 (strB s)))), none)
    | _ => none
  | .ixs x i => match asLit (ev T x), asLit (ev T i) with
    | some (.string s), some (.int _ i) => if 0 ≤ i then (s.data.toList[i.toNat]?).map fun b => (.lit (.int .u8 b.toNat), none) else none
    | _, _ => none
  | .minmax mx xs => match lits T xs with
    | some [.int k a, .int k' b] => if k = k' then some (.lit (.int k (if mx then (if b > a then b else a) else (if b < a then b else a))), none) else none
    | some [.int k a, .int k' b, .int k'' c] => if k = k' ∧ k = k'' ∧ mx = false then some (.lit (.int k (if c < (if b < a then b else a) then c else (if b < a then b else a))), none) else none
    | _ => none

/-! ### from the model's operation to the term -/
def fieldOf (P : Program) (s : TypeId) (f : Nat) : Option Field :=
  match P.underlying s with
  | some (.struct fs) => fs[f]?
  | _ => none
def sz (P : Program) (t : TypeId) : Option Nat := (P.info? t).map (·.size)
def agg? (P : Program) (t : TypeId) : Option Bool :=
  match P.underlying t with
  | some (.struct _) => some true
  | some (.array _ _) => some true
  | some _ => some false
  | none => none
def zer (P : Program) (t : TypeId) : Option (List Value) :=
  match (P.info? t).bind (·.zero) with
  | some z => if z.cells.toList.all (·.oneCell') then some z.cells.toList else none
  | none => none
def structPlaces (P : Program) : List Field → Option (List (Nat × Nat))
  | [] => some []
  | f :: r => (sz P f.type).bind fun n => (structPlaces P r).map ((f.offset, n) :: ·)
def placeAll (place : Nat → Option (Nat × Nat)) : List (Nat × Operand) → Option (List (Nat × Nat × Opd))
  | [] => some []
  | (i, x) :: r => (place i).bind fun (off, n) => (placeAll place r).map ((off, n, opd x) :: ·)

def eqop (P : Program) (op : BinOp) (neg : Bool) (t : TypeId) (x y : Operand) : Option QOp :=
  match P.underlying t with
  | some (.int _) | some .string => some (.bin op (opd x) (opd y))
  | some .bool => some (.eqb neg (opd x) (opd y))
  | some (.pointer e) => match y with
    | .const (.pointer none) => if P.pointee t = e then some (.eqp neg (opd x)) else none
    | _ => none
  | some (.interface _) => match y with
    | .const .nilIface => some (.eqi neg (opd x))
    | _ => none
  | some (.array len e) => match P.underlying e with
    | some (.int k) => if sz P e = some 1 ∧ P.eqGuardType P.depth t = false then some (.eqa neg len k (opd x) (opd y)) else none
    | _ => none
  | some (.struct fs) => match fs.toList with
    | [f, g] => match P.underlying f.type, P.underlying g.type with
      | some (.int k1), some (.array len e) => match P.underlying e with
        | some (.int k2) => if f.offset = 0 ∧ g.offset = 1 ∧ f.name ≠ "_" ∧ g.name ≠ "_" ∧ sz P g.type = some len ∧ sz P e = some 1 ∧ P.eqGuardType P.depth t = false ∧ P.stoodInHeld t = false then some (.eqs neg k1 len k2 (opd x) (opd y)) else none
        | _ => none
      | _, _ => none
    | _ => none
  | _ => none

def cop (P : Program) (o : Oper) : Option QOp :=
  match o.op with
  | .move x | .assign x => some (.mov (opd x))
  | .pick c a b => some (.pick (opd c) (opd a) (opd b))
  | .unOp op _ x => some (.un op (opd x))
  | .binOp op t x y _ =>
    match op with
    | .eql => eqop P .eql false t x y
    | .neq => eqop P .neq true t x y
    | _ => some (.bin op (opd x) (opd y))
  | .convert src dst x =>
    match P.underlying src, P.underlying dst with
    | some (.int _), some (.int k) => some (.cnv k (opd x))
    | some (.slice e), some .string => match P.underlying e with
      | some (.int .u8) => some (.b2s (opd x))
      | _ => none
    | some .string, some (.slice e) => match P.underlying e with
      | some (.int .u8) => some (.s2b (opd x))
      | _ => none
    | _, _ => none
  | .alloc t => (zer P t).map fun z => .alloc t z
  | .box t x => some (.box t (opd x))
  | .build t parts => (zer P t).bind fun z => match P.underlying t with
    | some (.struct fs) => (structPlaces P fs.toList).bind fun pl => (placeAll (fun i => pl[i]?) parts.toList).map fun ps => .build z ps
    | some (.array _ e) => (sz P e).bind fun n => (placeAll (fun i => some (i * n, n)) parts.toList).map fun ps => .build z ps
    | _ => none
  | .buildSlice t len parts => match P.underlying t with
    | some (.slice e) => (sz P e).bind fun es => (zer P e).bind fun z => if len * es ≤ 16777216 ∧ 0 < es ∧ z.length = es then some (.bsl es z len (parts.toList.map fun (i, x) => (i, opd x))) else none
    | _ => none
  | .load t x => (agg? P t).bind fun a => if a then (sz P t).map fun n => .lda n (opd x) else some (.ldc (opd x))
  | .nilCheck x => some (.nilc (opd x))
  | .sliceToArrayPointer t x => match P.underlying t with
    | some (.array n e) => (sz P e).map fun es => .s2a n es (opd x)
    | _ => none
  | .fieldAddr s x f => (fieldOf P s f).bind fun fl => (sz P fl.type).bind fun n => if n = 0 then none else some (.fad fl.offset (opd x))
  | .field s x f => (fieldOf P s f).bind fun fl => (agg? P fl.type).bind fun a => if a then (sz P fl.type).map fun n => .fga fl.offset n (opd x) else some (.fgc fl.offset (opd x))
  | .indexAddr t x i => match P.underlying t with
    | some (.array len e) => (sz P e).map fun es => .iad len es (opd x) (opd i)
    | some (.slice e) => (sz P e).bind fun es => if 0 < es then some (.isl es (opd x) (opd i)) else none
    | _ => none
  | .index t x i => match P.underlying t with
    | some .string => some (.ixs (opd x) (opd i))
    | _ => none
  | .slice t x lo hi none => match P.underlying t with
    | some (.array len e) => (sz P e).bind fun es => if es = 1 then some (.sar len (opd x) (lo.map opd) (hi.map opd)) else none
    | some (.slice e) => (sz P e).bind fun es => if 0 < es then some (.ssl es (opd x) (lo.map opd) (hi.map opd)) else none
    | some .string => some (.sst (opd x) (lo.map opd) (hi.map opd))
    | _ => none
  | .extract x i => some (.ext i (opd x))
  | .makeFunc (.func f) first caps => if first.size = 0 then some (.mkf f (caps.toList.map opd)) else none
  | .makeInterface t x => match P.underlying t with
    | some (.interface _) => none
    | some _ => some (.mki t (opd x))
    | none => none
  | .makeSlice t l c => match P.underlying t with
    | some (.slice e) => (P.info? e).bind fun i => (zer P e).bind fun z => if 0 < i.size ∧ z.length = i.size then some (.mks e i.size i.bytes z (opd l) (opd c)) else none
    | _ => none
  | .call { callee := .builtin .len, args := args, argTypes := ts } => match args.toList, ts.toList with
    | [x], [t] => match P.underlying t with
      | some (.slice _) => some (.len (opd x))
      | some .string => some (.lens (opd x))
      | _ => none
    | _, _ => none
  | .call { callee := .builtin .min, args := args, argTypes := _ } => if args.size = 2 ∨ args.size = 3 then some (.minmax false (args.toList.map opd)) else none
  | .call { callee := .builtin .max, args := args, argTypes := _ } => if args.size = 2 then some (.minmax true (args.toList.map opd)) else none
  | _ => none

/-- A slice of its own, spelled out. -/
def copR (P : Program) (o : Oper) : Option QOp :=
  match o.op with
  | .buildSlice t len parts => match P.underlying t with
    | some (.slice e) => (sz P e).bind fun es => (zer P e).bind fun z => if len * es ≤ 16777216 ∧ 0 < es ∧ z.length = es then some (.bsr e es z len (parts.toList.map fun (i, x) => (i, opd x))) else none
    | _ => none
  | _ => none

end Go.EW
