/- A machine on plain data: what a body of the model's code computes, with lists in the place of memory. -/
import Derived.Test.YtngcejakoaoojaaA1
import Derived.Deep.Quiet
namespace Go.Sm
open Go

structure LineV where
  p : Nat
  h : Nat
  w : Nat
  k : Int
structure EdgeV where
  f : Int
  t : Int
  p : Nat
structure PulseV where
  a : Nat
  b : Nat
  c : Nat
  d : Nat

inductive SC where
  | int (k : IntKind) (n : Int)
  | bo (b : Bool)
  | fl (k : FloatKind) (c : Nat)
  | cx (k : FloatKind) (a b : Nat)

inductive Elt where
  | sc (s : SC)
  | ag (cs : List SC)

def Elt.cells : Elt → List SC
  | .sc s => [s]
  | .ag cs => cs

/-- The kinds of what a slice or a variable holds. -/
inductive K where
  | f32 | f64 | i64 | bo | u8 | c64 | line | edge | pulse
  deriving DecidableEq

@[reducible] def K.ty : K → Type
  | .f32 => Nat
  | .f64 => Nat
  | .i64 => Int
  | .bo => Bool
  | .u8 => Int
  | .c64 => Nat × Nat
  | .line => LineV
  | .edge => EdgeV
  | .pulse => PulseV

def K.f : (k : K) → k.ty → Elt
  | .f32, c => .sc (.fl .f32 c)
  | .f64, c => .sc (.fl .f64 c)
  | .i64, n => .sc (.int .i64 n)
  | .bo, b => .sc (.bo b)
  | .u8, n => .sc (.int .u8 n)
  | .c64, c => .sc (.cx .f32 c.1 c.2)
  | .line, l => .ag [.fl .f32 l.p, .fl .f32 l.h, .fl .f32 l.w, .int .i64 l.k]
  | .edge, e => .ag [.int .i64 e.f, .int .i64 e.t, .fl .f32 e.p]
  | .pulse, p => .ag [.fl .f32 p.a, .fl .f32 p.b, .fl .f32 p.c, .fl .f32 p.d]

def K.g : (k : K) → Elt → Option k.ty
  | .f32, .sc (.fl .f32 c) => some c
  | .f64, .sc (.fl .f64 c) => some c
  | .i64, .sc (.int .i64 n) => some n
  | .bo, .sc (.bo b) => some b
  | .u8, .sc (.int .u8 n) => some n
  | .c64, .sc (.cx .f32 a b) => some (a, b)
  | .line, .ag [.fl .f32 p, .fl .f32 h, .fl .f32 w, .int .i64 k] => some ⟨p, h, w, k⟩
  | .edge, .ag [.int .i64 f, .int .i64 t, .fl .f32 p] => some ⟨f, t, p⟩
  | .pulse, .ag [.fl .f32 a, .fl .f32 b, .fl .f32 c, .fl .f32 d] => some ⟨a, b, c, d⟩
  | _, _ => none

def K.sz : K → Nat
  | .line => 4
  | .edge => 3
  | .pulse => 4
  | _ => 1

def K.agg : K → Bool
  | .line | .edge | .pulse => true
  | _ => false

def K.z : (k : K) → k.ty
  | .f32 => (0 : Nat)
  | .f64 => (0 : Nat)
  | .i64 => (0 : Int)
  | .bo => false
  | .u8 => (0 : Int)
  | .c64 => ((0 : Nat), (0 : Nat))
  | .line => ⟨0, 0, 0, 0⟩
  | .edge => ⟨0, 0, 0⟩
  | .pulse => ⟨0, 0, 0, 0⟩

structure Vec where
  k : K
  xs : List k.ty

def Vec.cast (v : Vec) (k : K) : Option (List k.ty) := if h : v.k = k then some (h ▸ v.xs) else none

def Vec.cells (v : Vec) : List SC := v.xs.flatMap fun a => (v.k.f a).cells

/-- Where a pointer or a slice leads: to what is only read ('o': it came in as this argument), or to a row of the call's own. -/
inductive Base where
  | v (vec : Vec)
  | r (r : Nat)

structure PT where
  b : Base
  sz : Nat
  i : Nat
  j : Nat

inductive FV where
  | el (e : Elt)
  | nil
  | vw (o : Option Nat) (v : Vec)
  | own (r : Nat)
  | pt (p : PT)
  | fn (f : Nat) (caps : List PT)

inductive AV where
  | un
  | fv (x : FV)
  | tup (xs : List FV)

structure Row where
  e : Nat
  v : Vec

abbrev Hp := List (Option Row)

structure St where
  sl : List (Nat × AV)
  H : Hp

inductive Ex where
  | normal
  | exit (id : Nat)
  | ret

/-- What a call hands back. -/
inductive RV where
  | el (e : Elt)
  | nil
  | fresh (e : Nat) (v : Vec)
  | arg (i : Nat)

/-- The end of a body: what it hands back, the first row. -/
structure Out where
  rs : List RV
  row : Option Row

abbrev R := Option Out

inductive NK where
  | bool
  | int (k : IntKind)
  | float (k : FloatKind)
  | complex (k : FloatKind)

/-- The types' table, the callees. -/
structure TT where
  sl : Nat → Option Nat
  ek : Nat → Option K
  fo : Nat → Nat → Option Nat
  nk : Nat → Option NK
  mutf : Nat → Bool
  S : Nat → List FV → (List RV → R) → R
  M : Nat → Vec → List FV → (List RV → Vec → R) → R

def lk : List (Nat × AV) → Nat → Option AV
  | [], _ => none
  | x :: l, n => bif Nat.beq x.1 n then some x.2 else lk l n

def rowAt (H : Hp) (r : Nat) : Option Row :=
  match H[r]? with
  | some (some row) => some row
  | _ => none

def constO : Value → Option FV
  | .bool b => some (.el (.sc (.bo b)))
  | .int k n => some (.el (.sc (.int k n)))
  | .float k b => bif isN k b then none else some (.el (.sc (.fl k b)))
  | .complex k a b => bif isN k a || isN k b then none else some (.el (.sc (.cx k a b)))
  | .slice none 0 0 => some .nil
  | _ => none

def evO (s : St) : Operand → Option FV
  | .tmp t => match lk s.sl t with
    | some (.fv v) => some v
    | _ => none
  | .const v => constO v
  | .func f => some (.fn f [])
  | .global _ => none

/-- A slot, whatever lies in it. -/
def evA (s : St) (x : Operand) : Option AV :=
  match x with
  | .tmp t => (match lk s.sl t with
    | some (.fv v) => some (.fv v)
    | some (.tup xs) => some (.tup xs)
    | _ => none)
  | x => match evO s x with
    | some v => some (.fv v)
    | none => none

def baseVec (H : Hp) : Base → Option Vec
  | .v vec => some vec
  | .r r => match rowAt H r with
    | some row => some row.v
    | none => none

/-- The elements of a slice, and where they lie. -/
def slice? (H : Hp) : FV → Option (Base × Vec)
  | .vw _ vec => some (.v vec, vec)
  | .own r => match rowAt H r with
    | some row => some (.r r, row.v)
    | none => none
  | _ => none

def closeP (H : Hp) (p : PT) : Option PT :=
  match baseVec H p.b with
  | some vec => bif Nat.beq p.sz vec.k.sz then some ⟨.v vec, p.sz, p.i, p.j⟩ else none
  | none => none

def closePs (H : Hp) : List PT → Option (List PT)
  | [] => some []
  | p :: ps => match closeP H p, closePs H ps with
    | some q, some qs => some (q :: qs)
    | _, _ => none

/-- A value as a callee that only reads it sees it. -/
def close (H : Hp) : FV → Option FV
  | .el e => some (.el e)
  | .nil => some .nil
  | .vw _ vec => some (.vw none vec)
  | .own r => match rowAt H r with
    | some row => some (.vw none row.v)
    | none => none
  | .pt p => match closeP H p with
    | some q => some (.pt q)
    | none => none
  | .fn f caps => match closePs H caps with
    | some qs => some (.fn f qs)
    | none => none

def closeAll (H : Hp) : List FV → Option (List FV)
  | [] => some []
  | x :: xs => match close H x, closeAll H xs with
    | some y, some ys => some (y :: ys)
    | _, _ => none

def evAll (s : St) : List Operand → Option (List FV)
  | [] => some []
  | x :: xs => match evO s x, evAll s xs with
    | some y, some ys => some (y :: ys)
    | _, _ => none

/-- What a call handed back, in the caller's memory. -/
def takeBack (args : List FV) (H : Hp) : List RV → Option (List FV × Hp)
  | [] => some ([], H)
  | .el e :: rs => match takeBack args H rs with
    | some (xs, H') => some (.el e :: xs, H')
    | none => none
  | .nil :: rs => match takeBack args H rs with
    | some (xs, H') => some (.nil :: xs, H')
    | none => none
  | .fresh e v :: rs => match takeBack args (H ++ [some ⟨e, v⟩]) rs with
    | some (xs, H') => some (.own H.length :: xs, H')
    | none => none
  | .arg i :: rs => match args[i]?, takeBack args H rs with
    | some a, some (xs, H') => some (a :: xs, H')
    | _, _ => none

def packed : List FV → AV
  | [x] => .fv x
  | xs => .tup xs

def isBool : Option NK → Bool
  | some .bool => true
  | _ => false

def binK (tb : Bool) (op : BinOp) (x y : SC) (k : SC → R) : R :=
  match x, y with
  | .int q a, .int q' b => bif decide (q = q') then (match op with
    | .add => k (.int q (q.wrap (a + b)))
    | .sub => k (.int q (q.wrap (a - b)))
    | .mul => k (.int q (q.wrap (a * b)))
    | .quo => bif decide (b = 0) then none else k (.int q (q.wrap (a.tdiv b)))
    | .rem => bif decide (b = 0) then none else k (.int q (a.tmod b))
    | .eql => k (.bo (a == b))
    | .neq => k (.bo (a != b))
    | .lss => k (.bo (decide (a < b)))
    | .leq => k (.bo (decide (a ≤ b)))
    | .gtr => k (.bo (decide (a > b)))
    | .geq => k (.bo (decide (a ≥ b)))
    | .andNot => k (.int q (q.wrap (((BitVec.ofInt q.bits a &&& ~~~(BitVec.ofInt q.bits b)).toNat : Nat) : Int)))
    | _ => none) else none
  | .fl q a, .fl q' b => bif decide (q = q') then (match op with
    | .add => k (.fl q (fop .add q a b))
    | .sub => k (.fl q (fop .sub q a b))
    | .mul => k (.fl q (fop .mul q a b))
    | .quo => k (.fl q (fop .quo q a b))
    | .eql => k (.bo (fcmp .eql q a b))
    | .neq => k (.bo (fcmp .neq q a b))
    | .lss => k (.bo (fcmp .lss q a b))
    | .leq => k (.bo (fcmp .leq q a b))
    | .gtr => k (.bo (fcmp .gtr q a b))
    | .geq => k (.bo (fcmp .geq q a b))
    | _ => none) else none
  | .bo a, .bo b => bif tb then (match op with
    | .eql => k (.bo (a == b))
    | .neq => k (.bo (!(a == b)))
    | _ => none) else none
  | .cx q a b, .cx q' c d => bif decide (q = q') then (match op with
    | .add => k (.cx q (fop .add q a c) (fop .add q b d))
    | .sub => k (.cx q (fop .sub q a c) (fop .sub q b d))
    | .eql => k (.bo (fcmp .eql q a c && fcmp .eql q b d))
    | .neq => k (.bo (!(fcmp .eql q a c && fcmp .eql q b d)))
    | _ => none) else none
  | _, _ => none

def unK (op : UnOp) (x : SC) (k : SC → R) : R :=
  match op, x with
  | .neg, .int q n => k (.int q (q.wrap (0 - n)))
  | .neg, .fl q c => k (.fl q (fneg q c))
  | .neg, .cx q a b => k (.cx q (fneg q a) (fneg q b))
  | .not, .bo b => k (.bo (!b))
  | _, _ => none

/-- A 32-bit float as a 64-bit one. -/
def wid (c : Nat) : Nat := (fconv .f32 .f64 c).getD 0

def convK (d : NK) (x : SC) (k : SC → R) : R :=
  match d, x with
  | .int q, .int _ n => k (.int q (q.wrap n))
  | .float q, .int _ n => k (.fl q (fint q n))
  | .float .f32, .fl .f32 c => k (.fl .f32 c)
  | .float .f64, .fl .f64 c => k (.fl .f64 c)
  | .float .f64, .fl .f32 c => k (.fl .f64 (wid c))
  | .float .f32, .fl .f64 c => match fconv .f64 .f32 c with
    | some r => k (.fl .f32 r)
    | none => none
  | .int q, .fl s c => match floatToIntVal s c q with
    | some n => k (.int q n)
    | none => none
  | .complex .f32, .cx .f32 a b => k (.cx .f32 a b)
  | .complex .f64, .cx .f64 a b => k (.cx .f64 a b)
  | .complex .f64, .cx .f32 a b => k (.cx .f64 (wid a) (wid b))
  | .complex .f32, .cx .f64 a b => match fconv .f64 .f32 a with
    | some r => (match fconv .f64 .f32 b with
      | some s => k (.cx .f32 r s)
      | none => none)
    | none => none
  | _, _ => none

def fmax (k : FloatKind) (a b : Nat) : Nat :=
  match k.format.order a b with
  | none => nanOf k
  | some .lt => b
  | some .gt => a
  | some .eq => bif (k.decode a).neg then b else a
def fmin (k : FloatKind) (a b : Nat) : Nat :=
  match k.format.order a b with
  | none => nanOf k
  | some .lt => a
  | some .gt => b
  | some .eq => bif (k.decode a).neg then a else b

def mxK (mx : Bool) (x y : SC) (k : SC → R) : R :=
  match x, y with
  | .int q a, .int q' b => bif decide (q = q') then (bif mx then k (.int q (if b > a then b else a)) else k (.int q (if b < a then b else a))) else none
  | .fl q a, .fl q' b => bif decide (q = q') then (bif mx then k (.fl q (fmax q a b)) else k (.fl q (fmin q a b))) else none
  | _, _ => none

def loadK (T : TT) (H : Hp) (t : Nat) (p : PT) (k : FV → R) : R :=
  match T.ek t, baseVec H p.b with
  | some q, some vec => bif Nat.beq p.sz vec.k.sz then (match vec.xs[p.i]? with
    | some a => bif q.agg then (bif decide (q = vec.k) && Nat.beq p.j 0 then k (.el (vec.k.f a)) else none)
      else (match (vec.k.f a).cells[p.j]? with
        | some s => k (.el (.sc s))
        | none => none)
    | none => none) else none
  | _, _ => none

/-- One element changed: the whole of it, or a cell. -/
def setElt (k : K) (a : k.ty) (whole : Bool) (j : Nat) (x : Elt) : Option k.ty :=
  bif whole then k.g x else match x with
    | .sc s => k.g (.ag ((k.f a).cells.set j s))
    | _ => none

def storeK (T : TT) (H : Hp) (t : Nat) (p : PT) (x : FV) (k : Hp → R) : R :=
  match T.ek t, p.b, x with
  | some q, .r r, .el e => match rowAt H r with
    | some row => match row.v.xs[p.i]? with
      | some a => (match setElt row.v.k a (decide (q = row.v.k) && Nat.beq p.j 0) p.j e with
        | some b => bif Nat.beq e.cells.length q.sz && Nat.beq p.sz row.v.k.sz && decide (p.j < row.v.k.sz) then k (H.set r (some ⟨row.e, ⟨row.v.k, row.v.xs.set p.i b⟩⟩)) else none
        | none => none)
      | none => none
    | none => none
  | _, _, _ => none

def scs? : List FV → Option (List SC)
  | [] => some []
  | .el (.sc s) :: xs => match scs? xs with
    | some ss => some (s :: ss)
    | none => none
  | _ :: _ => none

def fillCells (T : TT) (t : Nat) : List (Nat × SC) → List SC → Option (List SC)
  | [], cs => some cs
  | (f, s) :: ps, cs => match T.fo t f with
    | some o => fillCells T t ps (cs.set o s)
    | none => none

def fillVec (k : K) : List (Nat × FV) → List k.ty → Option (List k.ty)
  | [], xs => some xs
  | (i, .el e) :: ps, xs => match k.g e with
    | some a => bif decide (i < xs.length) then fillVec k ps (xs.set i a) else none
    | none => none
  | _ :: _, _ => none

def evParts (s : St) : List (Nat × Operand) → Option (List (Nat × FV))
  | [] => some []
  | (i, x) :: ps => match evO s x, evParts s ps with
    | some v, some vs => some ((i, v) :: vs)
    | _, _ => none

def scParts : List (Nat × FV) → Option (List (Nat × SC))
  | [] => some []
  | (i, .el (.sc s)) :: ps => match scParts ps with
    | some vs => some ((i, s) :: vs)
    | none => none
  | _ :: _ => none

def ints? : FV → Option Int
  | .el (.sc (.int .i64 n)) => some n
  | _ => none

def pts? : List FV → Option (List PT)
  | [] => some []
  | .pt p :: xs => match pts? xs with
    | some ps => some (p :: ps)
    | none => none
  | _ :: _ => none

/-- How long a slice is. -/
def lenO (H : Hp) : FV → Option Int
  | .nil => some 0
  | x => match slice? H x with
    | some (_, v) => some (v.xs.length : Int)
    | none => none

def appendK (T : TT) (H : Hp) (t : Nat) (d x : FV) (k : FV → Hp → R) : R :=
  match T.sl t with
  | none => none
  | some e => match T.ek e with
    | none => none
    | some q => match slice? H x with
      | none => none
      | some (_, v) => match v.cast q with
        | none => none
        | some ys => match d with
          | .nil => bif decide (ys.length ≤ 1099511627776) then k (.own H.length) (H ++ [some ⟨e, ⟨q, ys⟩⟩]) else none
          | .own r => (match rowAt H r with
            | none => none
            | some row => match row.v.cast q with
              | none => none
              | some zs => bif Nat.beq row.e e && decide (zs.length + ys.length ≤ 1099511627776) then k (.own H.length) (H.set r none ++ [some ⟨e, ⟨q, zs ++ ys⟩⟩]) else none)
          | _ => none

/-- The first elements of a row written over by those of a slice. -/
def copyK (T : TT) (H : Hp) (t : Nat) (d x : FV) (k : FV → Hp → R) : R :=
  match T.sl t with
  | none => none
  | some e => match T.ek e with
    | none => none
    | some q => match slice? H x with
      | none => none
      | some (_, v) => match v.cast q with
        | none => none
        | some ys => match d with
          | .own r => (match rowAt H r with
            | none => none
            | some row => match row.v.cast q with
              | none => none
              | some zs => bif decide (ys.length ≤ zs.length) then k (.el (.sc (.int .i64 (ys.length : Int)))) (H.set r (some ⟨row.e, ⟨q, ys ++ zs.drop ys.length⟩⟩)) else none)
          | _ => none

def boundO (s : St) : Option Operand → Int → Option Int
  | none, d => some d
  | some x, _ => match evO s x with
    | some (.el (.sc (.int _ n))) => some n
    | _ => none

def quietRV : List RV → Bool
  | [] => true
  | .el _ :: rs => quietRV rs
  | _ :: _ => false

def allEl : List FV → Bool
  | [] => true
  | .el _ :: xs => allEl xs
  | _ :: _ => false

/-- One operation: what it leaves in its slot, and the memory behind it. 'q': only what leaves memory alone. -/
def opK (T : TT) (q : Bool) (op : Op) (s : St) (k : AV → Hp → R) : R :=
  match op with
  | .move x => match evA s x with
    | some v => k v s.H
    | none => none
  | .assign x => match evO s x with
    | some v => k (.fv v) s.H
    | none => none
  | .pick c a b => match evO s c with
    | some (.el (.sc (.bo t))) => bif t then (match evO s a with
        | some v => k (.fv v) s.H
        | none => none)
      else (match evO s b with
        | some v => k (.fv v) s.H
        | none => none)
    | _ => none
  | .binOp o t x y _ => match evO s x, evO s y with
    | some (.el (.sc a)), some (.el (.sc b)) => binK (isBool (T.nk t)) o a b fun c => k (.fv (.el (.sc c))) s.H
    | some (.vw _ vec), some .nil => (match o, T.sl t with
      | .eql, some _ => bif Nat.ble 1 vec.xs.length then k (.fv (.el (.sc (.bo false)))) s.H else none
      | _, _ => none)
    | _, _ => none
  | .unOp o _ x => match evO s x with
    | some (.el (.sc a)) => unK o a fun c => k (.fv (.el (.sc c))) s.H
    | _ => none
  | .convert c d x => match T.nk c, T.nk d, evO s x with
    | some _, some n, some (.el (.sc a)) => convK n a fun c => k (.fv (.el (.sc c))) s.H
    | _, _, _ => none
  | .nilCheck x => match evO s x with
    | some (.pt p) => k (.fv (.pt p)) s.H
    | some (.fn f caps) => k (.fv (.fn f caps)) s.H
    | _ => none
  | .load t x => match evO s x with
    | some (.pt p) => loadK T s.H t p fun v => k (.fv v) s.H
    | _ => none
  | .fieldAddr t x f => match evO s x, T.fo t f with
    | some (.pt p), some o => k (.fv (.pt ⟨p.b, p.sz, p.i, p.j + o⟩)) s.H
    | _, _ => none
  | .indexAddr t x i => match T.sl t, evO s x, evO s i with
    | some e, some v, some n => (match T.ek e, slice? s.H v, n with
      | some kd, some (b, vec), .el (.sc (.int _ n)) => bif decide (0 ≤ n ∧ n < (vec.xs.length : Int)) && decide (kd = vec.k) then k (.fv (.pt ⟨b, vec.k.sz, n.toNat, 0⟩)) s.H else none
      | _, _, _ => none)
    | _, _, _ => none
  | .extract x i => match x with
    | .tmp t => (match lk s.sl t with
      | some (.tup xs) => (match xs[i]? with
        | some v => k (.fv v) s.H
        | none => none)
      | _ => none)
    | _ => none
  | .field t x f => match evO s x, T.fo t f with
    | some (.el (.ag cs)), some o => (match cs[o]? with
      | some c => k (.fv (.el (.sc c))) s.H
      | none => none)
    | _, _ => none
  | .slice t x lo hi none => (match T.sl t, evO s x with
    | some e, some (.vw _ vec) => (match T.ek e, boundO s lo 0, boundO s hi (vec.xs.length : Int) with
      | some kd, some l, some h => bif decide (0 ≤ l ∧ l ≤ h ∧ h ≤ (vec.xs.length : Int)) && decide (kd = vec.k) then k (.fv (.vw none ⟨vec.k, (vec.xs.drop l.toNat).take (h.toNat - l.toNat)⟩)) s.H else none
      | _, _, _ => none)
    | _, _ => none)
  | .makeFunc fn first caps => match fn, first.toList, evAll s caps.toList with
    | .func f, [], some xs => (match pts? xs with
      | some ps => k (.fv (.fn f ps)) s.H
      | none => none)
    | _, _, _ => none
  | .store t a x => bif q then none else match evO s a, evO s x with
    | some (.pt p), some v => storeK T s.H t p v fun H => k .un H
    | _, _ => none
  | .box t x => bif q then none else match T.ek t, evO s x with
    | some kd, some (.el e) => (match kd.g e with
      | some a => k (.fv (.pt ⟨.r s.H.length, kd.sz, 0, 0⟩)) (s.H ++ [some ⟨t, ⟨kd, [a]⟩⟩])
      | none => none)
    | _, _ => none
  | .alloc t => bif q then none else match T.ek t with
    | some kd => k (.fv (.pt ⟨.r s.H.length, kd.sz, 0, 0⟩)) (s.H ++ [some ⟨t, ⟨kd, [kd.z]⟩⟩])
    | none => none
  | .build t parts => match T.ek t, evParts s parts.toList with
    | some kd, some ps => (match scParts ps with
      | some ss => (match fillCells T t ss (kd.f kd.z).cells with
        | some cs => bif kd.agg then k (.fv (.el (.ag cs))) s.H else none
        | none => none)
      | none => none)
    | _, _ => none
  | .buildSlice t n parts => bif q then none else match T.sl t, evParts s parts.toList with
    | some e, some ps => (match T.ek e with
      | some kd => (match fillVec kd ps (List.replicate n kd.z) with
        | some xs => bif decide (n ≤ 65536) then k (.fv (.own s.H.length)) (s.H ++ [some ⟨e, ⟨kd, xs⟩⟩]) else none
        | none => none)
      | none => none)
    | _, _ => none
  | .makeSlice t l c => bif q then none else match T.sl t, evO s l, evO s c with
    | some e, some (.el (.sc (.int _ n))), some (.el (.sc (.int _ m))) => (match T.ek e with
      | some kd => bif decide (0 ≤ n ∧ n = m ∧ n ≤ 1099511627776) then k (.fv (.own s.H.length)) (s.H ++ [some ⟨e, ⟨kd, List.replicate n.toNat kd.z⟩⟩]) else none
      | none => none)
    | _, _, _ => none
  | .call c => match c.callee with
    | .builtin b => (match evAll s c.args.toList with
      | none => none
      | some xs => match b, xs with
        | .len, [x] => (match c.argTypes.toList with
          | [t] => (match T.sl t, lenO s.H x with
            | some _, some n => k (.fv (.el (.sc (.int .i64 n)))) s.H
            | _, _ => none)
          | _ => none)
        | .max, [.el (.sc a), .el (.sc b)] => mxK true a b fun c => k (.fv (.el (.sc c))) s.H
        | .min, [.el (.sc a), .el (.sc b)] => mxK false a b fun c => k (.fv (.el (.sc c))) s.H
        | .real, [.el (.sc (.cx q a _))] => k (.fv (.el (.sc (.fl q a)))) s.H
        | .imag, [.el (.sc (.cx q _ b))] => k (.fv (.el (.sc (.fl q b)))) s.H
        | .complex, [.el (.sc (.fl p a)), .el (.sc (.fl p' b))] => bif decide (p = p') then k (.fv (.el (.sc (.cx p a b)))) s.H else none
        | .copy, [d, x] => bif q then none else (match c.argTypes.toList with
          | t :: _ => copyK T s.H t d x fun v H => k (.fv v) H
          | _ => none)
        | .append, [d, x] => bif q then none else (match c.argTypes.toList with
          | [t, t'] => bif Nat.beq t t' then appendK T s.H t d x fun v H => k (.fv v) H else none
          | _ => none)
        | _, _ => none)
    | .value f => (match evO s f, evAll s c.args.toList with
      | some (.fn g caps), some xs =>
        bif T.mutf g then (bif q then none else match xs, caps with
          | .own r :: ys, [] => (match rowAt s.H r, closeAll s.H ys with
            | some row, some zs => bif allEl zs then T.M g row.v zs fun rs v => bif quietRV rs && decide (v.k = row.v.k) then (match takeBack xs (s.H.set r (some ⟨row.e, v⟩)) rs with
              | some (vs, H) => k (packed vs) H
              | none => none) else none
              else none
            | _, _ => none)
          | _, _ => none)
        else (match closeAll s.H (xs ++ caps.map .pt) with
          | some zs => T.S g zs fun rs => bif q && !quietRV rs then none else match takeBack xs s.H rs with
            | some (vs, H) => k (packed vs) H
            | none => none
          | none => none)
      | _, _ => none)
    | _ => none
  | _ => none

/-- A guard: carried out (with what is known then), or not. -/
def guardK (ops : List Oper) (g : Option (Nat × Bool)) (s : St) (yes no : St → R) : R :=
  match g with
  | none => yes s
  | some (j, want) => match ops[j]? with
    | none => none
    | some o => match o.dst with
      | none => none
      | some d => match lk s.sl d with
        | some (.fv (.el (.sc (.bo b)))) =>
          bif b then (bif want then yes else no) ⟨(d, .fv (.el (.sc (.bo true)))) :: s.sl, s.H⟩
          else (bif want then no else yes) ⟨(d, .fv (.el (.sc (.bo false)))) :: s.sl, s.H⟩
        | some .un => no s
        | _ => none

def putS (s : St) (dst : Option Nat) (v : AV) (H : Hp) : St :=
  match dst with
  | some d => ⟨(d, v) :: s.sl, H⟩
  | none => ⟨s.sl, H⟩

def dstOk (nt : Nat) : Option Nat → Bool
  | some d => decide (d < nt)
  | none => true

def opsK (T : TT) (q : Bool) (nt : Nat) (all : List Oper) : List Oper → St → (St → R) → R
  | [], s, k => k s
  | o :: os, s, k => bif dstOk nt o.dst then
      guardK all o.guard s (fun s => opK T q o.op s fun v H => opsK T q nt all os (putS s o.dst v H) k) (fun s => opsK T q nt all os (putS s o.dst .un s.H) k)
    else none

def memN (n : Nat) : List Nat → Bool
  | [] => false
  | m :: l => Nat.beq n m || memN n l

def edgeTo (o : Oper) (i : Nat) : Bool := o.after.toList.any fun e => Region.binds .any e && Nat.beq e.on i

def optIn : Option Nat → List Nat → Bool
  | none, _ => false
  | some d, l => memN d l

def sameDst : Option Nat → Option Nat → Bool
  | some a, some b => Nat.beq a b
  | _, _ => false

/-- Whatever order they are carried out in, each finds what it looks at, and none finds what comes later. -/
def pairOk (all : Array Oper) (i : Nat) (o o' : Oper) : Bool :=
  (edgeTo o' i || (!optIn o.dst (o'.looksAt all) && !optIn o'.dst (o.looksAt all))) && !sameDst o.dst o'.dst

def laterOk (all : Array Oper) (i : Nat) (o : Oper) : List Oper → Bool
  | [] => true
  | o' :: os => pairOk all i o o' && laterOk all i o os

def drawFrom (all : Array Oper) : Nat → List Oper → Bool
  | _, [] => true
  | i, o :: os => (o.after.toList.all fun e => !Region.binds .any e || Nat.blt e.on i) && laterOk all i o os && drawFrom all (i + 1) os

def drawOk (ops : Array Oper) : Bool := drawFrom ops 0 ops.toList

/-- An operation that does nothing, in the place of one that is looked at by itself. -/
def idle (o : Oper) : Oper := { dst := none, op := .move (.const (.bool false)), type := o.type, pos := o.pos, after := o.after, guard := none }

def idleL (ia is : Nat) : Nat → List Oper → List Oper
  | _, [] => []
  | i, o :: os => (bif Nat.beq i ia || Nat.beq i is then idle o else o) :: idleL ia is (i + 1) os

/-- The one new variable of a drawn region, the one write to it: place · slot · type; place · slot of the value · type. -/
def findA : Nat → List Oper → Option (Nat × Nat × Nat)
  | _, [] => none
  | i, o :: os => match o.op, o.dst, o.guard with
    | .alloc t, some d, none => some (i, d, t)
    | _, _, _ => findA (i + 1) os

def findS (d : Nat) : Nat → List Oper → Option (Nat × Nat × Nat)
  | _, [] => none
  | i, o :: os => match o.op, o.dst, o.guard with
    | .store t (.tmp d') (.tmp x), none, none => bif Nat.beq d d' then some (i, x, t) else findS d (i + 1) os
    | _, _, _ => findS d (i + 1) os

/-- Nothing else looks at that slot or writes it; behind the write nothing writes what was written. -/
def clearOf (d x ia is : Nat) (all : Array Oper) : Nat → List Oper → Bool
  | _, [] => true
  | i, o :: os => (Nat.beq i ia || (!sameDst (some d) o.dst && (Nat.beq i is || !memN d (o.looksAt all)))) && (Nat.ble i is || !sameDst (some x) o.dst) && clearOf d x ia is all (i + 1) os

/-- Without what is there already. -/
def uni : List Nat → List Nat → List Nat
  | [], b => b
  | n :: a, b => bif memN n (uni a b) then uni a b else n :: uni a b

/-- What an operation waits for; 'acc': what those ahead wait for. -/
def ancsL (acc : List (List Nat)) : List Go.Edge → List Nat
  | [] => []
  | e :: es => bif Region.binds .any e then uni (e.on :: acc.getD e.on []) (ancsL acc es) else ancsL acc es

/-- From the 'p'th on each waits for all ahead of it. -/
def behindFrom (p : Nat) : Nat → List (List Nat) → List Oper → Bool
  | _, _, [] => true
  | i, acc, o :: os => (Nat.blt i p || (List.range i).all fun j => memN j (ancsL acc o.after.toList)) && behindFrom p (i + 1) (acc ++ [ancsL acc o.after.toList]) os

/-- The one slice of one element that a drawn region makes: place · type · slot of the element · slot. -/
def findB : Nat → List Oper → Option (Nat × Nat × Nat × Nat)
  | _, [] => none
  | i, o :: os => match o.op, o.dst, o.guard with
    | .buildSlice t 1 parts, some b, none => (match parts.toList with
      | [(0, .tmp x)] => some (i, t, x, b)
      | _ => findB (i + 1) os)
    | _, _, _ => findB (i + 1) os

/-- An operation that changes memory. -/
def effOp : Op → Bool
  | .store .. => true
  | .alloc .. => true
  | .box .. => true
  | .makeSlice .. => true
  | .buildSlice .. => true
  | .call c => match c.callee with
    | .builtin .append => true
    | .builtin .copy => true
    | _ => false
  | _ => false

/-- The first operation that comes in turn. -/
def sufAt (all : Array Oper) (ib b : Nat) : Nat → List Oper → Nat
  | i, [] => i
  | i, o :: os => bif !Nat.beq i ib && (effOp o.op || (Nat.blt ib i && memN b (o.looksAt all))) then i else sufAt all ib b (i + 1) os

def statB (ops : Array Oper) (ib p b x nt : Nat) : Bool :=
  Nat.ble p ops.toList.length && behindFrom p 0 [] ops.toList && (!Nat.blt ib p || (!Nat.beq b x && Nat.blt b nt && clearOf b x ib ib ops 0 (ops.toList.take p)))

/-- The slice that is made. -/
def bldK (T : TT) (ib p t x b : Nat) (s : St) (k : St → R) : R :=
  bif Nat.blt ib p then (match T.sl t with
    | some e => (match T.ek e, lk s.sl x with
      | some kd, some (.fv (.el el)) => (match kd.g el with
        | some a => k ⟨(b, .fv (.own s.H.length)) :: s.sl, s.H ++ [some ⟨e, ⟨kd, [a]⟩⟩]⟩
        | none => none)
      | _, _ => none)
    | none => none) else k s

def drawnP (T : TT) (nt : Nat) (ops : Array Oper) (ib p t x b : Nat) (s : St) (k : St → R) : R :=
  bif statB ops ib p b x nt then
    opsK T true nt (idleL ib ib 0 (ops.toList.take p)) (idleL ib ib 0 (ops.toList.take p)) s fun s' => bldK T ib p t x b s' fun s2 => opsK T false nt ops.toList (ops.toList.drop p) s2 k
  else none

def drawnK (T : TT) (nt : Nat) (ops : Array Oper) (s : St) (k : St → R) : R :=
  match findB 0 ops.toList with
  | some (ib, t, x, b) => drawnP T nt ops ib (sufAt ops ib b 0 ops.toList) t x b s k
  | none => bif Nat.beq (sufAt ops ops.size 0 0 ops.toList) ops.size then opsK T true nt ops.toList ops.toList s k
      else drawnP T nt ops ops.size (sufAt ops ops.size 0 0 ops.toList) 0 0 0 s k

/-- The slots that count at a loop's head, behind it, at a return; the rows that they lead to, numbered anew. -/
def keepSlots (l : List (Nat × AV)) : List Nat → Option (List (Nat × AV))
  | [] => some []
  | t :: ts => match lk l t, keepSlots l ts with
    | some v, some r => some ((t, v) :: r)
    | _, _ => none

structure Ann where
  /-- of the loop that holds this region first: the slots at its head · behind it · at a return -/
  lp : Nat → Option (List Nat × List Nat)
  rets : List Nat
  /-- so many of the first rows keep their number -/
  nf : Nat := 0

def refsP (p : PT) : List Nat :=
  match p.b with
  | .r r => [r]
  | .v _ => []

def refsF : FV → List Nat
  | .own r => [r]
  | .pt p => refsP p
  | .fn _ caps => caps.flatMap refsP
  | _ => []

def refsA : AV → List Nat
  | .un => []
  | .fv x => refsF x
  | .tup xs => xs.flatMap refsF

/-- Each number once, the last place counts. -/
def once : List Nat → List Nat
  | [] => []
  | n :: l => bif memN n l then once l else n :: once l

def place (n : Nat) : List Nat → Nat
  | [] => 0
  | m :: l => bif Nat.beq n m then 0 else place n l + 1

def renP (ids : List Nat) (p : PT) : PT :=
  match p.b with
  | .r r => ⟨.r (place r ids), p.sz, p.i, p.j⟩
  | .v vec => ⟨.v vec, p.sz, p.i, p.j⟩

def renF (ids : List Nat) : FV → FV
  | .own r => .own (place r ids)
  | .pt p => .pt (renP ids p)
  | .fn f caps => .fn f (caps.map (renP ids))
  | .el e => .el e
  | .nil => .nil
  | .vw o v => .vw o v

def renA (ids : List Nat) : AV → AV
  | .un => .un
  | .fv x => .fv (renF ids x)
  | .tup xs => .tup (xs.map (renF ids))

def rowOf (H : Hp) (r : Nat) : Option Row :=
  match H[r]? with
  | some row => row
  | none => none

/-- The first rows keep their number. -/
def stays : Nat → List Nat → Bool
  | 0, _ => true
  | n + 1, ids => stays n ids && (match ids[n]? with
    | some m => Nat.beq m n
    | none => false)

def normS (nf : Nat) (ts : List Nat) (s : St) : Option St :=
  match keepSlots s.sl ts with
  | some l => bif stays nf (once (l.flatMap fun x => refsA x.2)) then some ⟨l.map fun x => (x.1, renA (once (l.flatMap fun x => refsA x.2)) x.2), (once (l.flatMap fun x => refsA x.2)).map (rowOf s.H)⟩ else none
  | none => none

def exK (A : Ann) (outs : List Nat) (k : Ex → St → R) : Ex → St → R
  | .ret, s => match normS A.nf A.rets s with
    | some s' => k .ret s'
    | none => none
  | .exit i, s => match normS A.nf outs s with
    | some s' => k (.exit i) s'
    | none => none
  | .normal, _ => none

def iterK (A : Ann) (ins outs : List Nat) (body : St → (Ex → St → R) → R) : Nat → St → (Ex → St → R) → R
  | 0, _, _ => none
  | n + 1, s, k => body s fun e s' => match e with
    | .normal => (match normS A.nf ins s' with
      | some s'' => iterK A ins outs body n s'' k
      | none => none)
    | e => exK A outs k e s'

def firstRegion : Code → Nat
  | .region id _ _ => id
  | .seq a _ => firstRegion a
  | .block _ a => firstRegion a
  | _ => 0

/-- The loops: what each is known to do, in the place of its rounds. -/
abbrev Loops := Nat → St → (Ex → St → R) → R

def codeK (T : TT) (A : Ann) (L : Loops) (nt : Nat) : Code → St → (Ex → St → R) → R
  | .skip, s, k => k .normal s
  | .region _ ops d, s, k => bif d then (bif drawOk ops then (match findA 0 ops.toList with
      | none => drawnK T nt ops s (k .normal)
      | some (ia, d, t) => match findS d 0 ops.toList with
        | none => none
        | some (is, x, t') => bif Nat.beq t t' && !Nat.beq d x && Nat.blt d nt && Nat.blt ia is && clearOf d x ia is ops 0 ops.toList then
            opsK T true nt (idleL ia is 0 ops.toList) (idleL ia is 0 ops.toList) s fun s' => match T.ek t, lk s'.sl x with
              | some kd, some (.fv (.el e)) => (match kd.g e with
                | some a => k .normal ⟨(d, .fv (.pt ⟨.r s'.H.length, kd.sz, 0, 0⟩)) :: s'.sl, s'.H ++ [some ⟨t, ⟨kd, [a]⟩⟩]⟩
                | none => none)
              | _, _ => none
          else none) else none) else opsK T false nt ops.toList ops.toList s (k .normal)
  | .seq a b, s, k => codeK T A L nt a s fun e s' => match e with
    | .normal => codeK T A L nt b s' k
    | e => k e s'
  | .cond c a b, s, k => match evO s c with
    | some (.el (.sc (.bo t))) => bif t then codeK T A L nt a s k else codeK T A L nt b s k
    | _ => none
  | .block id a, s, k => codeK T A L nt a s fun e s' => match e with
    | .exit i => bif Nat.beq i id then k .normal s' else k (.exit i) s'
    | e => k e s'
  | .loop a, s, k => match A.lp (firstRegion a) with
    | some (ins, _) => (match normS A.nf ins s with
      | some s' => L (firstRegion a) s' k
      | none => none)
    | none => none
  | .ret, s, k => k .ret s
  | .exit id, s, k => k (.exit id) s
  | _, _, _ => none

end Go.Sm
