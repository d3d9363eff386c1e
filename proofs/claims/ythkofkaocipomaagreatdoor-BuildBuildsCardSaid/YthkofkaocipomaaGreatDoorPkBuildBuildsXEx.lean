/- A run over abstract states, reckoned: an evaluator. -/
import Derived.Test.YthkofkaocipomaaGreatDoorPkBuildBuildsXAbB
import Derived.Test.YthkofkaocipomaaGreatDoorPkBuildBuildsF
import Derived.Test.YthkofkaocipomaaGreatDoorPkBuildBuildsB
import Derived.LoopN
namespace Go.Proofs.YthkofkaocipomaaGreatDoor
open Go.RowKit
set_option linter.unusedVariables false
set_option linter.unusedSimpArgs false
namespace Ex

mutual
def labs : AV → List Nat
  | .ref j _ _ _ => [j]
  | .row j _ => [j]
  | .agg l => q4i l
  | .tup l => q4i l
  | .opt _ x => labs x
  | .fn _ fs cs => q4i fs ++ q4i cs
  | .any => []
  | .c _ => []
  | .pp _ => []
def q4i : List AV → List Nat
  | [] => []
  | x :: l => labs x ++ q4i l
end
inductive Tr where
  | lf
  | nd (v : AV) (l r : Tr)
def Tr.get : Nat → Tr → Nat → AV
  | 0, _, _ => .any
  | f + 1, t, k => match t with
    | .lf => .any
    | .nd v l r => match k with
      | 0 => v
      | k + 1 => match Nat.beq (Nat.mod k 2) 0 with
        | true => Tr.get f l (Nat.div k 2)
        | false => Tr.get f r (Nat.div k 2)
def Tr.set (x : AV) : Nat → Tr → Nat → Tr
  | 0, t, _ => t
  | f + 1, t, k => match t with
    | .lf => match k with
      | 0 => .nd x .lf .lf
      | k + 1 => match Nat.beq (Nat.mod k 2) 0 with
        | true => .nd .any (Tr.set x f .lf (Nat.div k 2)) .lf
        | false => .nd .any .lf (Tr.set x f .lf (Nat.div k 2))
    | .nd v l r => match k with
      | 0 => .nd x l r
      | k + 1 => match Nat.beq (Nat.mod k 2) 0 with
        | true => .nd v (Tr.set x f l (Nat.div k 2)) r
        | false => .nd v l (Tr.set x f r (Nat.div k 2))
abbrev T := Tr
def tget (l : T) (k : Nat) : AV := Tr.get 20 l k
abbrev H := List (Nat × Option Blkd)
structure XS where
  l : T
  h : H
  n : Nat
def put {α : Type} (k : Nat) (x : α) (l : List (Nat × α)) : List (Nat × α) := (k, x) :: l.filter fun p => !(Nat.beq p.1 k)
def putO (d : Option Nat) (x : AV) (l : T) : T := match d with | some k => Tr.set x 20 l k | none => l
def puts : List (Nat × Option Blkd) → H → H
  | [], h => h
  | p :: l, h => puts l (put p.1 p.2 h)
abbrev Err := List Nat
abbrev R (α : Type) := Except Err α
def gd (b : Bool) (e : Eff) (c : Nat) : R Eff := match b with | true => .ok e | false => .error [c]
def okxB (t : Nat → AV) : Operand → Bool
  | .tmp k => match t k with | .opt b _ => b | _ => true
  | _ => true
def okOB (t : Nat → AV) : Option Operand → Bool
  | none => true
  | some x => okxB t x
def j10 (l : List AV) : Bool := l.all AV.cellish
def ltN (i : Int) (n : Nat) : Bool := match i with | .ofNat m => Nat.blt m n | .negSucc _ => false
def wrapF (k : IntKind) (n : Int) : Int :=
  match k, n with
  | .i64, .ofNat m => match Nat.blt m 9223372036854775808 with | true => .ofNat m | false => k.wrap n
  | .u8, .ofNat m => match Nat.blt m 256 with | true => .ofNat m | false => k.wrap n
  | _, _ => k.wrap n
def eqI (a b : Int) : Bool :=
  match a, b with
  | .ofNat a, .ofNat b => Nat.beq a b
  | .negSucc a, .negSucc b => Nat.beq a b
  | _, _ => false
def leI (a b : Int) : Bool :=
  match a, b with
  | .ofNat a, .ofNat b => Nat.ble a b
  | .negSucc a, .negSucc b => Nat.ble b a
  | .negSucc _, .ofNat _ => true
  | .ofNat _, .negSucc _ => false
def binG (op : BinOp) (k : IntKind) (a b : Int) : Value :=
  match op with
  | .add => .int k (wrapF k (Int.add a b))
  | .sub => .int k (wrapF k (Int.sub a b))
  | .eql => .bool (eqI a b)
  | .neq => .bool (!(eqI a b))
  | .lss => .bool (!(leI b a))
  | .leq => .bool (leI a b)
  | .gtr => .bool (!(leI a b))
  | .geq => .bool (leI b a)
  | _ => binI op k a b
def sEq (a b : ByteArray) : Bool := a.data.toList == b.data.toList
def binF (op : BinOp) (x y : Value) : Value :=
  match x, y with
  | .string a, .string b => match op with
    | .eql => .bool (sEq a b)
    | .neq => .bool (!(sEq a b))
    | _ => binV op x y
  | .int k a, .int _ b => binG op k a b
  | _, _ => binV op x y
def binOkB (ty : Nat → Option TyA) (op : BinOp) (tt : TypeId) (x y : Value) : Bool :=
  match x, y with
  | .int k _, .int k' b => (Nat.beq k.ctorIdx k'.ctorIdx || q5b op) && match op with | .quo | .rem => !(eqI b 0) | .shl | .shr => leI 0 b | _ => true
  | .string a, .string b => match op with | .eql | .neq => true | .add => decide (a.size + b.size ≤ 9223372036854775807) | .lss | .leq | .gtr | .geq => true | _ => false
  | .bool _, .bool _ => (op == .eql || op == .neq) && match ty tt with | some T => T.kind == 4 | none => false
  | .pointer none, .pointer none => (op == .eql || op == .neq) && match ty tt with | some T => T.kind == 7 | none => false
  | _, _ => false
def unOkB (op : UnOp) (x : Value) : Bool :=
  match op, x with
  | .not, .bool _ | .neg, .int _ _ | .xor, .int _ _ => true
  | _, _ => false
def j2s : List AV → Option (List PV)
  | [] => some []
  | .c p :: l => match j2s l with | some m => some (p :: m) | none => none
  | _ :: _ => none
def j2t : List (List AV) → Option (List (List PV))
  | [] => some []
  | e :: l => match j2s e with
    | some e' => match j2t l with | some m => some (e' :: m) | none => none
    | none => none
def j22 : List (List PV) → Bool
  | [] => true
  | [.v (.int .u8 n)] :: l => decide (0 ≤ n) && decide (n < 256) && j22 l
  | _ => false
def j40 (h : Nat → Option Blkd) (z : Nat) : AV → Bool
  | .row j n => match h j with | some B => B.row && B.len == n && B.z == z | none => false
  | .c (.sl z' _) => z' == z
  | .c (.v (.slice none 0 0)) => true
  | _ => false

def opMove (t : Nat → AV) (x : Operand) : R Eff :=
  gd (okxB t x) ⟨ev t x, [], []⟩ 1
def opPick (t : Nat → AV) (c : Operand) (x : Operand) (y : Operand) : R Eff :=
    match ev t c with
    | .c (.v (.bool true)) => gd (okxB t c && okxB t x) ⟨ev t x, [], []⟩ 2
    | .c (.v (.bool false)) => gd (okxB t c && okxB t y) ⟨ev t y, [], []⟩ 3
    | _ => .error [4]
def opBinOp (ty : Nat → Option TyA) (t : Nat → AV) (h : Nat → Option Blkd) (op : BinOp) (tt : TypeId) (x : Operand) (y : Operand) : R Eff :=
    match ev t x, ev t y with
    | .c (.v (.slice none 0 0)), .c (.v (.slice none 0 0)) => match ty tt, q26 op true with
      | some T, some b => gd (okxB t x && okxB t y && Nat.beq T.kind 1) ⟨.c (.v (.bool b)), [], []⟩ 116
      | _, _ => .error [117]
    | .c (.v u), .c (.v u') => gd (okxB t x && okxB t y && binOkB ty op tt u u') ⟨.c (.v (binF op u u')), [], []⟩ 5
    | .c (.sl _ es), .c (.v (.slice none 0 0)) => match ty tt, q26 op false with
      | some T, some b => gd (okxB t x && okxB t y && Nat.beq T.kind 1 && !es.isEmpty) ⟨.c (.v (.bool b)), [], []⟩ 112
      | _, _ => .error [113]
    | .row j m, .c (.v (.slice none 0 0)) => match ty tt, h j, q26 op false with
      | some T, some B, some b => gd (okxB t x && okxB t y && Nat.beq T.kind 1 && Nat.beq B.len m && B.row && Nat.blt 0 m) ⟨.c (.v (.bool b)), [j], []⟩ 114
      | _, _, _ => .error [115]
    | .ref j m _ _, .c (.v (.pointer none)) => match ty tt, h j, q26 op false with
      | some T, some B, some b => gd (okxB t x && okxB t y && Nat.beq T.kind 7 && Nat.beq B.len m) ⟨.c (.v (.bool b)), [j], []⟩ 6
      | _, _, _ => .error [7]
    | .pp _, .c (.v (.pointer none)) => match ty tt, q26 op false with
      | some T, some b => gd (okxB t x && okxB t y && Nat.beq T.kind 7) ⟨.c (.v (.bool b)), [], []⟩ 8
      | _, _ => .error [9]
    | .ref j m i off, .ref j' m' i' off' => match ty tt, h j, q26 op true with
      | some T, some B, some b => match ty T.elem with
        | some E => gd (okxB t x && okxB t y && Nat.beq T.kind 7 && Nat.beq B.len m && Nat.beq j' j && Nat.beq m' m && Nat.beq i' i && Nat.beq off' off && !(Nat.beq E.size 0)) ⟨.c (.v (.bool b)), [j], []⟩ 10
        | none => .error [11]
      | _, _, _ => .error [12]
    | _, _ => .error [13]
def opUnOp (t : Nat → AV) (op : UnOp) (x : Operand) : R Eff :=
    match ev t x with
    | .c (.v u) => gd (okxB t x && unOkB op u) ⟨.c (.v (unV op u)), [], []⟩ 14
    | _ => .error [15]
def z1h (t : Nat → AV) (x : Operand) (i : Nat) : R Eff :=
    match ev t x with
    | .tup l => match l[i]? with
      | some y => gd (okxB t x) ⟨y, [], []⟩ 16
      | none => .error [17]
    | _ => .error [18]
def opAlloc (ty : Nat → Option TyA) (n : Nat) (tt : TypeId) : R Eff :=
    match ty tt with
    | some T => gd (!T.zero.isEmpty && T.zero.all (·.oneCell')) ⟨.ref n 1 0 0, [], [(n, some ⟨false, tt, (q2d T).length, [q2d T]⟩)]⟩ 19
    | none => .error [20]
def opBox (n : Nat) (t : Nat → AV) (tt : TypeId) (x : Operand) : R Eff :=
  gd (okxB t x && j10 (q00 (ev t x))) ⟨.ref n 1 0 0, [], [(n, some ⟨false, tt, (q00 (ev t x)).length, [q00 (ev t x)]⟩)]⟩ 21
def opBuild (ty : Nat → Option TyA) (t : Nat → AV) (tt : TypeId) (parts : Array (Nat × Operand)) : R Eff :=
    match ty tt with
    | some T => gd (Nat.beq T.kind 3 && parts.toList.all (fun p => okxB t p.2) && !T.zero.isEmpty && T.zero.all (·.oneCell') && !T.pls.isEmpty &&
        (pv t parts).all (fun p => j10 (q00 p.2) && match T.pls[p.1]? with | some (a, b) => Nat.beq b (q00 p.2).length && Nat.ble (a + (q00 p.2).length) T.zero.length | none => false))
        ⟨.agg (q41 (fun i => ((T.pls[i]?).map (·.1)).getD 0) (q2d T) (pv t parts)), [], []⟩ 22
    | none => .error [23]
def z1e (ty : Nat → Option TyA) (n : Nat) (t : Nat → AV) (tt : TypeId) (len : Nat) (parts : Array (Nat × Operand)) : R Eff :=
    match ty tt with
    | some T => match ty T.elem with
      | some E => gd (Nat.beq T.kind 1 && parts.toList.all (fun p => okxB t p.2) && Nat.beq E.zero.length E.size && Nat.blt 0 E.size && E.zero.all (·.oneCell') && Nat.ble (len * E.size) 16777216 && (pv t parts).all (fun p => j10 (q00 p.2) && Nat.blt p.1 len && Nat.beq (q00 p.2).length E.size))
          ⟨.row n (q3t (List.replicate len (q2d E)) (pv t parts)).length, [], [(n, some ⟨true, T.elem, E.size, q3t (List.replicate len (q2d E)) (pv t parts)⟩)]⟩ 24
      | none => .error [25]
    | none => .error [26]
def opLoad (ty : Nat → Option TyA) (gl : Nat → Option (List PV)) (t : Nat → AV) (h : Nat → Option Blkd) (tt : TypeId) (x : Operand) : R Eff :=
    match ty tt with
    | some T => match ev t x with
      | .ref j m i off => match h j with
        | some B => match B.elems[i]? with
          | some e => gd (okxB t x && Nat.beq B.len m && Nat.ble (off + T.size) e.length && (T.row || Nat.beq T.size 1)) ⟨q4a T e off, [j], []⟩ 27
          | none => .error [28]
        | none => .error [29, j]
      | .pp e => gd (okxB t x && Nat.ble T.size e.length && (T.row || Nat.beq T.size 1)) ⟨q3m T e, [], []⟩ 30
      | _ => match x with
        | .global g => match gl g with
          | some e => gd (Nat.ble T.size e.length && (T.row || Nat.beq T.size 1)) ⟨q3m T e, [], []⟩ 31
          | none => .error [32]
        | _ => .error [33]
    | none => .error [34]
def opStore (ty : Nat → Option TyA) (t : Nat → AV) (h : Nat → Option Blkd) (tt : TypeId) (x : Operand) (y : Operand) : R Eff :=
    match ty tt with
    | some T => match ev t x with
      | .ref j m i off => match h j with
        | some B => match B.elems[i]? with
          | some e => gd (okxB t x && okxB t y && Nat.beq B.len m && j10 (q00 (ev t y)) && Nat.beq (q00 (ev t y)).length T.size && Nat.ble (off + T.size) e.length) ⟨.any, [j], [(j, some (setE B i e off (q00 (ev t y))))]⟩ 35
          | none => .error [36]
        | none => .error [37, j]
      | _ => .error [38]
    | none => .error [39]
def z1i (ty : Nat → Option TyA) (t : Nat → AV) (h : Nat → Option Blkd) (s : TypeId) (x : Operand) (f : Nat) : R Eff :=
    match ty s with
    | some T => match T.flds[f]? with
      | some (o', ft) => match ty ft with
        | some F => match ev t x with
          | .ref j m i off => match h j with
            | some B => gd (okxB t x && Nat.beq T.kind 3 && !(Nat.beq F.size 0) && Nat.beq B.len m) ⟨.ref j m i (off + o'), [j], []⟩ 40
            | none => .error [41, j]
          | .pp e => gd (okxB t x && Nat.beq T.kind 3 && !(Nat.beq F.size 0)) ⟨.pp (e.drop o'), [], []⟩ 42
          | _ => .error [43]
        | none => .error [44]
      | none => .error [45]
    | none => .error [46]
def z1j (ty : Nat → Option TyA) (t : Nat → AV) (h : Nat → Option Blkd) (s : TypeId) (x : Operand) (y : Operand) : R Eff :=
    match ty s with
    | some T => match ty T.elem with
      | some E => match ev t y with
        | .c (.v (.int _ i)) => match ev t x with
          | .c (.sl z es) => gd (okxB t x && okxB t y && Nat.beq T.kind 1 && Nat.beq E.size z && ltN i es.length) ⟨.pp ((es[i.toNat]?).getD []), [], []⟩ 47
          | .row j m => match h j with
            | some B => gd (okxB t x && okxB t y && Nat.beq T.kind 1 && B.row && Nat.beq B.len m && Nat.beq E.size B.z && ltN i m) ⟨.ref j m i.toNat 0, [j], []⟩ 48
            | none => .error [49, j]
          | _ => .error [50]
        | _ => .error [51]
      | none => .error [52]
    | none => .error [53]
def opLen (ty : Nat → Option TyA) (t : Nat → AV) (h : Nat → Option Blkd) (x : Operand) (tt : TypeId) : R Eff :=
      match ty tt with
      | some T => match ev t x with
        | .c (.sl _ es) => gd (okxB t x && Nat.beq T.kind 1) ⟨.c (.v (.int .i64 (es.length : Int))), [], []⟩ 54
        | .c (.v (.slice _ m _)) => gd (okxB t x && Nat.beq T.kind 1) ⟨.c (.v (.int .i64 (m : Int))), [], []⟩ 55
        | .c (.v (.string s)) => gd (okxB t x && Nat.beq T.kind 2) ⟨.c (.v (.int .i64 (s.size : Int))), [], []⟩ 56
        | .row j m => match h j with
          | some B => gd (okxB t x && Nat.beq T.kind 1 && Nat.beq B.len m && B.row) ⟨.c (.v (.int .i64 (m : Int))), [j], []⟩ 57
          | none => .error [58, j]
        | _ => .error [59]
      | none => .error [60]
def z1d (ty : Nat → Option TyA) (o : Oper) (n : Nat) (t : Nat → AV) (h : Nat → Option Blkd) (x : Operand) (y : Operand) (tt : TypeId) (tt' : TypeId) : R Eff :=
      match ty tt with
      | some T => match ty T.elem with
        | some E => match ev t x with
          | .row j m => match h j with
            | some B => match ev t y with
              | .c (.v (.string _)) => .error [61]
              | _ => gd (okxB t x && okxB t y && Nat.beq tt' tt && Nat.beq o.type tt && Nat.beq T.kind 1 && Nat.blt 0 E.size && Nat.beq E.zero.length E.size && B.row && Nat.beq B.len m && Nat.beq B.T T.elem && Nat.beq B.z E.size && j40 h E.size (ev t y) &&
                Nat.ble ((m + (q1r h (ev t y)).length) * E.bytes) 140737488355328 && Nat.ble (m + (q1r h (ev t y)).length) 1099511627776)
                ⟨.row j (m + (q1r h (ev t y)).length), j :: q4x (ev t y), [(j, some (grown B (q1r h (ev t y))))]⟩ 62
            | none => .error [63, j]
          | .c (.v (.slice none 0 0)) => gd (okxB t x && okxB t y && Nat.beq tt' tt && Nat.beq o.type tt && Nat.beq T.kind 1 && Nat.blt 0 E.size && Nat.beq E.zero.length E.size && j40 h E.size (ev t y) &&
                Nat.ble ((q1r h (ev t y)).length * E.bytes) 140737488355328 && Nat.ble (q1r h (ev t y)).length 1099511627776)
                ⟨.row n (q1r h (ev t y)).length, q4x (ev t y), [(n, some ⟨true, T.elem, E.size, q1r h (ev t y)⟩)]⟩ 64
          | _ => .error [65]
        | none => .error [66]
      | none => .error [67]
def opMax (t : Nat → AV) (x : Operand) (y : Operand) : R Eff :=
      match ev t x, ev t y with
      | .c (.v (.int k a)), .c (.v (.int k' b)) => gd (okxB t x && okxB t y && k' == k) ⟨.c (.v (.int k (max a b))), [], []⟩ 68
      | _, _ => .error [69]
def opMin (t : Nat → AV) (x : Operand) (y : Operand) : R Eff :=
      match ev t x, ev t y with
      | .c (.v (.int k a)), .c (.v (.int k' b)) => gd (okxB t x && okxB t y && k' == k) ⟨.c (.v (.int k (min a b))), [], []⟩ 70
      | _, _ => .error [71]
def opVal (t : Nat → AV) (cl : FuncId → List AV → R Eff) (xs : List Operand) (f : Operand) : R Eff :=
      match ev t f with
      | .fn (.func f') fs cs => match okxB t f && xs.all (okxB t) with
        | true => cl f' (fs ++ xs.map (ev t) ++ cs)
        | false => .error [72]
      | _ => .error [73]
def opIndex (ty : Nat → Option TyA) (n : Nat) (t : Nat → AV) (tt : TypeId) (x : Operand) (y : Operand) : R Eff :=
    match ty tt with
    | some T => match ev t x, ev t y with
      | .c (.v (.string s)), .c (.v (.int _ i)) => gd (okxB t x && okxB t y && Nat.beq T.kind 2 && ltN i s.size) ⟨.c (.v (.int .u8 (((s.data.toList[i.toNat]?).getD 0).toNat : Int))), [], []⟩ 75
      | .agg l, .c (.v (.int _ i)) => match T.flds with
        | [(n, e)] => match ty e, l[i.toNat]? with
          | some E, some q => gd (okxB t x && okxB t y && Nat.beq T.kind 6 && !E.row && Nat.beq E.size 1 && ltN i n) ⟨q, [], []⟩ 76
          | _, _ => .error [77]
        | _ => .error [78]
      | _, _ => .error [79]
    | none => .error [80]
def z1m (t : Nat → AV) (h : Nat → Option Blkd) (x : Operand) : R Eff :=
    match ev t x with
    | .ref j m i off => match h j with
      | some B => gd (okxB t x && Nat.beq B.len m) ⟨.ref j m i off, [j], []⟩ 81
      | none => .error [82, j]
    | .pp e => gd (okxB t x) ⟨.pp e, [], []⟩ 83
    | _ => .error [84]
def z1l (ty : Nat → Option TyA) (n : Nat) (t : Nat → AV) (tt : TypeId) (x : Operand) (y : Operand) : R Eff :=
    match ty tt with
    | some T => match ty T.elem with
      | some E => match ev t x, ev t y with
        | .c (.v (.int _ m)), .c (.v (.int _ m')) => gd (okxB t x && okxB t y && eqI m' m && Nat.beq T.kind 1 && Nat.beq E.zero.length E.size && Nat.blt 0 E.size && E.zero.all (·.oneCell') && decide (0 ≤ m) && decide (m ≤ 4294967296) && decide ((E.bytes : Int) * m ≤ 140737488355328))
            ⟨.row n m.toNat, [], [(n, some ⟨true, T.elem, E.size, List.replicate m.toNat (q2d E)⟩)]⟩ 85
        | _, _ => .error [86]
      | none => .error [87]
    | none => .error [88]
def z1f (ty : Nat → Option TyA) (t : Nat → AV) (h : Nat → Option Blkd) (src : TypeId) (dst : TypeId) (x : Operand) : R Eff :=
    match ty src, ty dst with
    | some S, some D => match ev t x with
      | .c (.v (.int _ m)) => match q55 D.kind with
        | some k' => gd (okxB t x) ⟨.c (.v (.int k' (wrapF k' m))), [], []⟩ 89
        | none => .error [90]
      | .c (.v (.string s)) => match Nat.beq D.kind 2 with
        | true => gd (okxB t x) ⟨.c (.v (.string s)), [], []⟩ 91
        | false => match ty D.elem with
          | some E => gd (okxB t x && Nat.beq S.kind 2 && Nat.beq D.kind 1 && Nat.beq E.kind 14 && Nat.ble s.size 140737488355328) ⟨.c (.sl 1 (q0o s.data.toList)), [], []⟩ 92
          | none => .error [93]
      | .c (.sl z es) => match ty S.elem with
        | some E => gd (okxB t x && Nat.beq z 1 && Nat.beq S.kind 1 && Nat.beq E.kind 14 && Nat.beq D.kind 2 && j22 es) ⟨.c (.v (.string (bstr (q3c es)))), [], []⟩ 94
        | none => .error [95]
      | .row j m => match h j with
        | some B => match ty S.elem, j2t B.elems with
          | some E, some es => match Nat.beq D.kind 2 with
            | true => gd (okxB t x && Nat.beq S.kind 1 && Nat.beq E.kind 14 && B.row && Nat.beq B.len m && Nat.beq B.z 1 && j22 es) ⟨.c (.v (.string (bstr (q3c es)))), [j], []⟩ 96
            | false => gd (okxB t x && Nat.beq dst src && Nat.beq S.kind 1 && Nat.beq E.kind 14 && B.row && Nat.beq B.len m && Nat.blt 0 m) ⟨.c (.sl B.z es), [j], [(j, none)]⟩ 118
          | _, _ => .error [97]
        | none => .error [98, j]
      | _ => .error [99]
    | _, _ => .error [100]
def opSlice (ty : Nat → Option TyA) (t : Nat → AV) (tt : TypeId) (x : Operand) (lo : Option Operand) (hi : Option Operand) : R Eff :=
    match ty tt with
    | some T => match ev t x with
      | .c (.sl z es) => match bnd t 0 lo, bnd t es.length hi, ty T.elem with
        | some l, some u, some E => gd (okxB t x && okOB t lo && okOB t hi && Nat.beq T.kind 1 && Nat.beq E.size z && decide (0 ≤ l) && decide (l ≤ u) && decide (u ≤ (es.length : Int))) ⟨.c (.sl z ((es.take u.toNat).drop l.toNat)), [], []⟩ 101
        | _, _, _ => .error [102]
      | .c (.v (.string s)) => match bnd t 0 lo, bnd t s.size hi with
        | some l, some u => gd (okxB t x && okOB t lo && okOB t hi && Nat.beq T.kind 2 && decide (0 ≤ l) && decide (l ≤ u) && decide (u ≤ (s.size : Int))) ⟨.c (.v (.string (bstr ((s.data.toList.take u.toNat).drop l.toNat)))), [], []⟩ 103
        | _, _ => .error [104]
      | .row j _ => .error [105, j]
      | _ => .error [106]
    | none => .error [107]
def z1k (t : Nat → AV) (fn : Fn) (first : Array Operand) (captured : Array Operand) : R Eff :=
  gd (first.toList.all (okxB t) && captured.toList.all (okxB t)) ⟨.fn fn (first.toList.map (ev t)) (captured.toList.map (ev t)), [], []⟩ 108
def opF (ty : Nat → Option TyA) (gl : Nat → Option (List PV)) (o : Oper) (n : Nat) (t : Nat → AV) (h : Nat → Option Blkd) (cl : FuncId → List AV → R Eff) : R Eff :=
  match o.op with
  | .move x | .assign x => opMove t x
  | .pick c x y => opPick t c x y
  | .binOp op tt x y _ => opBinOp ty t h op tt x y
  | .unOp op _ x => opUnOp t op x
  | .extract x i => z1h t x i
  | .alloc tt => opAlloc ty n tt
  | .box tt x => opBox n t tt x
  | .build tt parts => opBuild ty t tt parts
  | .buildSlice tt len parts => z1e ty n t tt len parts
  | .load tt x => opLoad ty gl t h tt x
  | .store tt x y => opStore ty t h tt x y
  | .fieldAddr s x f => z1i ty t h s x f
  | .indexAddr s x y => z1j ty t h s x y
  | .call c =>
    match c.callee, c.args.toList, c.argTypes.toList with
    | .builtin .len, [x], [tt] => opLen ty t h x tt
    | .builtin .append, [x, y], [tt, tt'] => z1d ty o n t h x y tt tt'
    | .builtin .max, [x, y], _ => opMax t x y
    | .builtin .min, [x, y], _ => opMin t x y
    | .value f, xs, _ => opVal t cl xs f
    | _, _, _ => .error [74]
  | .index tt x y => opIndex ty n t tt x y
  | .nilCheck x => z1m t h x
  | .makeSlice tt x y => z1l ty n t tt x y
  | .convert src dst x => z1f ty t h src dst x
  | .slice tt x lo hi none => opSlice ty t tt x lo hi
  | .makeFunc fn first captured => z1k t fn first captured
  | _ => .error [109]
def opxF (ty : Nat → Option TyA) (gl : Nat → Option (List PV)) (ops : Array Oper) (o : Oper) (n : Nat) (t : Nat → AV) (h : Nat → Option Blkd) (cl : FuncId → List AV → R Eff) : R Eff :=
  match o.guard with
  | none => opF ty gl o n t h cl
  | some (g, w) => match (ops.toList[g]?).bind (·.dst) with
    | some d => match q5a (t d) w with
      | some false => .ok ⟨.opt false .any, [], []⟩
      | some true => match opF ty gl o n t h cl with
        | .ok ⟨v, rd, []⟩ => .ok ⟨.opt true v, rd, []⟩
        | e => e
      | none => .error [110]
    | none => .error [111]
def opsF (ty : Nat → Option TyA) (gl : Nat → Option (List PV)) (cl : H → Nat → FuncId → List AV → R Eff) (ops : Array Oper) : List Oper → XS → Foot → R (XS × Foot)
  | [], s, fs => .ok (s, fs)
  | o :: l, s, fs => match opxF ty gl ops o s.n (tget s.l) (look none s.h) (cl s.h s.n) with
    | .ok e => opsF ty gl cl ops l ⟨putO o.dst e.val s.l, puts e.wr s.h, Nat.add s.n 8⟩ (e.foot :: fs)
    | .error e => .error ((ops.size - l.length) :: e)

mutual
def scB (u : Nat → Bool) (h : Nat → Option Blkd) : AV → Bool
  | .any => true
  | .c _ => true
  | .ref j n _ _ => u j && match h j with | some B => Nat.ble n B.len | none => true
  | .row j n => u j && match h j with | some B => Nat.ble n B.len | none => true
  | .pp _ => true
  | .agg l => scBL u h l
  | .tup l => scBL u h l
  | .opt b x => !b || scB u h x
  | .fn _ fs cs => scBL u h fs && scBL u h cs
def scBL (u : Nat → Bool) (h : Nat → Option Blkd) : List AV → Bool
  | [] => true
  | x :: l => scB u h x && scBL u h l
end
mutual
def noOpt : AV → Bool
  | .any => true
  | .c _ => true
  | .ref _ _ _ _ => true
  | .row _ _ => true
  | .pp _ => true
  | .agg l => q7x l
  | .tup l => q7x l
  | .opt _ _ => false
  | .fn _ fs cs => q7x fs && q7x cs
def q7x : List AV → Bool
  | [] => true
  | x :: l => noOpt x && q7x l
end
def memB (k : Nat) : List Nat → Bool
  | [] => false
  | x :: l => match Nat.beq x k with | true => true | false => memB k l
mutual
def frzV (j : Nat) (B : Blkd) (es : List (List PV)) : AV → AV
  | .ref k n i off => match Nat.beq k j with
    | true => match es[i]?, Nat.beq B.len n with | some e, true => .pp (e.drop off) | _, _ => .any
    | false => .ref k n i off
  | .row k n => match Nat.beq k j with
    | true => match Nat.beq B.len n, B.row with | true, true => .c (.sl B.z es) | _, _ => .any
    | false => .row k n
  | .agg l => .agg (q8q j B es l)
  | .fn f fs cs => .fn f (q8q j B es fs) (q8q j B es cs)
  | .any => .any
  | .c p => .c p
  | .pp l => .pp l
  | .tup l => .tup l
  | .opt b x => .opt b x
def q8q (j : Nat) (B : Blkd) (es : List (List PV)) : List AV → List AV
  | [] => []
  | x :: l => frzV j B es x :: q8q j B es l
end
def getV : AV → Option AV | .opt true x => some x | .opt false _ => none | x => some x
def frzT (j : Nat) (B : Blkd) (es : List (List PV)) (t : Nat → AV) : List Nat → List (Nat × AV)
  | [] => []
  | k :: l => match getV (t k) with
    | some v => (k, frzV j B es v) :: frzT j B es t l
    | none => frzT j B es t l
def frzH (j : Nat) (B : Blkd) (es : List (List PV)) (h : Nat → Option Blkd) : List Nat → List (Nat × Blkd)
  | [] => []
  | k :: l => match Nat.beq k j, h k with
    | false, some C => match (C.elems.map (q8q j B es)).all j10 with
      | true => (k, { C with elems := C.elems.map (q8q j B es) }) :: frzH j B es h l
      | false => frzH j B es h l
    | _, _ => frzH j B es h l
def keys {α : Type} : List (Nat × α) → List Nat → List Nat
  | [], seen => seen
  | p :: l, seen => match seen.any (Nat.beq p.1) with | true => keys l seen | false => keys l (p.1 :: seen)
def somes (l : List (Nat × Blkd)) : H := l.map fun p => (p.1, some p.2)
def toT : List (Nat × AV) → T
  | [] => .lf
  | p :: l => Tr.set p.2 20 (toT l) p.1
def frz (N j : Nat) (s : XS) : Option XS :=
  match look none s.h j with
  | some B => match j2t B.elems with
    | some es => match frzT j B es (tget s.l) (List.range N), frzH j B es (look none s.h) (keys s.h []) with
      | l, hl => match Nat.ble N 1000000 && l.all (fun p => scB (fun k => Nat.blt k s.n || Nat.ble 1000000 k) (look none (somes hl)) p.2) && hl.all (fun p => (Nat.blt p.1 s.n || Nat.ble 1000000 p.1) && p.2.elems.all (scBL (fun k => Nat.blt k s.n || Nat.ble 1000000 k) (look none (somes hl)))) with
        | true => some ⟨toT l, somes hl, s.n⟩
        | false => none
    | none => none
  | none => none
def j2f (N : Nat) : List Nat → XS → XS
  | [], s => s
  | j :: js, s => match frz N j s with | some s' => j2f N js s' | none => j2f N js s

def q84 (h : Nat → Option Blkd) : Nat → List Nat → List Nat → List Nat
  | 0, _, seen => seen
  | _, [], seen => seen
  | f + 1, j :: todo, seen => match memB j seen with
    | true => q84 h f todo seen
    | false => match h j with
      | some B => q84 h f (B.elems.foldr (fun e l => q4i e ++ l) todo) (seen ++ [j])
      | none => q84 h f todo seen
def j3m (h : Nat → Option Blkd) : Nat → List Nat → List Nat → List Nat
  | 0, _, seen => seen
  | _, [], seen => seen
  | f + 1, j :: todo, seen => match memB j seen with
    | true => j3m h f todo seen
    | false => match h j with
      | some B => match B.row with
        | true => j3m h f todo (seen ++ [j])
        | false => j3m h f (B.elems.foldr (fun e l => q4i e ++ l) todo) (seen ++ [j])
      | none => j3m h f todo seen
def idx (k : Nat) : List Nat → Nat → Nat
  | [], i => i
  | x :: l, i => match Nat.beq x k with | true => i | false => idx k l (i + 1)
def inv (ks : List Nat) (j : Nat) : Nat := 1000000 + idx j ks 0

structure FnI where
  N : Nat
  body : Code
  results : List ResultVar
structure Env where
  ty : Nat → Option TyA
  gl : Nat → Option (List PV)
  fn : FuncId → Option FnI
  orc : FuncId → List AV → Option AV
  /-- What is told, and not run. -/
  isO : FuncId → Bool
  /-- Whose results are frozen. -/
  fz : FuncId → Bool

def resX (ty : Nat → Option TyA) (s : XS) : ResultVar → R AV
  | .tmp k => match tget s.l k with | .opt true x => .ok x | .opt false _ => .error [200] | x => .ok x
  | .cell a tt => match ty tt with
    | some T => match tget s.l a with
      | .ref j m i off => match look none s.h j with
        | some B => match B.elems[i]? with
          | some e => match Nat.beq B.len m && Nat.ble (off + T.size) e.length && (T.row || Nat.beq T.size 1) with | true => .ok (q4a T e off) | false => .error [201]
          | none => .error [202]
        | none => .error [203]
      | _ => .error [204]
    | none => .error [205]
def resL (ty : Nat → Option TyA) (s : XS) : List ResultVar → R (List AV)
  | [] => .ok []
  | x :: l => match resX ty s x with
    | .ok v => match resL ty s l with | .ok m => .ok (v :: m) | .error e => .error e
    | .error e => .error e
def one : List AV → AV | [x] => x | l => .tup l
def enum {α β : Type} (f : α → β) : List α → Nat → List (Nat × β)
  | [], _ => []
  | x :: l, i => (i, f x) :: enum f l (i + 1)
def q6o : Nat → Nat → List Nat
  | 0, _ => []
  | n + 1, i => i :: q6o n (i + 1)
def zOkB : List Blkd → List (Option Blkd) → Bool
  | [], _ => true
  | B :: L, some B' :: L' => Nat.beq B'.z B.z && zOkB L L'
  | _ :: L, none :: L' => zOkB L L'
  | _ :: _, [] => false
def j3h : List Nat → Bool
  | [] => true
  | x :: l => !(memB x l) && j3h l
def inBL (ks : List Nat) (l : List AV) : Bool := (q4i l).all fun j => memB j ks
def scsB (u : Nat → Bool) (h : Nat → Option Blkd) (B : Blkd) : Bool := B.elems.all (scBL u h)
def endsB (h : H) (ks : List Nat) (k : Nat) : Option (Option Blkd) :=
  match look none h k with
  | none => some none
  | some B => match B.elems.all (inBL ks) with | true => some (some (B.ren (inv ks))) | false => none
def j15 (h : H) (ks : List Nat) : List Nat → Option (List (Option Blkd))
  | [] => some []
  | k :: l => match endsB h ks k with
    | some b => match j15 h ks l with | some m => some (b :: m) | none => none
    | none => none
def fin (E : Env) (N : Nat) (f : FuncId) (rs : List ResultVar) (L : List Blkd) (s : XS) : R (List (Option Blkd) × AV) :=
  match resL E.ty s rs with
  | .error e => .error (f :: e)
  | .ok ys =>
    match q6o L.length 1000000 with
    | lent => match (q84 (look none s.h) 10000 (q4i ys ++ lent) []).filter fun j => Nat.blt j 1000000 && !(memB j (j3m (look none s.h) 10000 (match E.fz f with | true => lent | false => q4i ys ++ lent) [])) with
      | cand => match j2f N (cand ++ cand.reverse ++ cand) s with
        | s1 => match resL E.ty s1 rs with
          | .error e => .error (f :: e)
          | .ok ys => match (q84 (look none s1.h) 10000 (q4i ys ++ lent) []).filter fun j => Nat.blt j 1000000 with
            | news => match j15 s1.h (lent ++ news) (lent ++ news) with
              | none => .error [212, f]
              | some L' => match zOkB L L' && j3h news && inBL (lent ++ news) ys && q7x ys && scB (fun j => Nat.ble 1000000 j && Nat.blt j (1000000 + L'.length)) (q0l L') (one (AV.renL (inv (lent ++ news)) ys)) &&
                  L'.all (fun b => match b with | some B => scsB (fun j => Nat.ble 1000000 j && Nat.blt j (1000000 + L'.length)) (q0l L') B | none => true) && Nat.ble rs.length 3 with
                | true => .ok (L', one (AV.renL (inv (lent ++ news)) ys))
                | false => .error [213, f]
def runF (E : Env) (rec : Nat → Code → XS → R (Exit × XS)) (f : FuncId) (args : List AV) (L : List Blkd) : R (List (Option Blkd) × AV) :=
  match E.isO f with
  | true => match L, E.orc f args with | [], some y => .ok ([], y) | _, _ => .error [210, f]
  | false => match E.fn f with
   | none => .error [217, f]
   | some F => match Nat.ble F.N 1000000 && Nat.ble args.length F.N && scBL (Nat.ble 1000000) (look none (enum some L 1000000)) args && L.all (scsB (Nat.ble 1000000) (look none (enum some L 1000000))) with
    | false => .error [214, f]
    | true => match rec F.N F.body ⟨toT (enum id args 0), enum some L 1000000, 0⟩ with
      | .error e => .error (f :: e)
      | .ok (.normal, s) => fin E F.N f F.results L s
      | .ok (.ret, s) => fin E F.N f F.results L s
      | .ok _ => .error [211, f]
def lendL (h : H) (ks : List Nat) : List Nat → Option (List Blkd)
  | [] => some []
  | k :: l => match look none h k with
    | some B => match B.elems.all (inBL ks), lendL h ks l with | true, some m => some (B.ren (inv ks) :: m) | _, _ => none
    | none => none
def lostB : List Nat → List Blkd → List (Option Blkd) → Option Nat
  | k :: ks, B :: L, none :: L' => match B.row with | true => some k | false => lostB ks L L'
  | _ :: ks, _ :: L, _ :: L' => lostB ks L L'
  | _, _, _ => none
def eqCell : AV → AV → Bool
  | .c (.v (.int k a)), .c (.v (.int k' b)) => Nat.beq k.ctorIdx k'.ctorIdx && eqI a b
  | .c (.v (.string a)), .c (.v (.string b)) => sEq a b
  | .c (.v (.bool a)), .c (.v (.bool b)) => a == b
  | .c (.v (.slice none 0 0)), .c (.v (.slice none 0 0)) => true
  | .row j n, .row j' n' => Nat.beq j j' && Nat.beq n n'
  | .ref j n i o, .ref j' n' i' o' => Nat.beq j j' && Nat.beq n n' && Nat.beq i i' && Nat.beq o o'
  | _, _ => false
def j2a : List AV → List AV → Bool
  | [], [] => true
  | x :: l, y :: m => eqCell x y && j2a l m
  | _, _ => false
def flag (B : Blkd) : Option Blkd → Bool
  | some ⟨false, T, z, [e']⟩ => match B with
    | ⟨false, T', z', [e]⟩ => Nat.beq T T' && Nat.beq z z' && j2a e e'
    | _ => false
  | _ => false
def j3a : List Blkd → List (Option Blkd) → List Bool
  | B :: L, b :: L' => flag B b :: j3a L L'
  | _, _ => []
def j1z (E : Env) (st : Bool) (rec : Nat → Code → XS → R (Exit × XS)) (h : H) (n : Nat) (f : FuncId) (args : List AV) : R Eff :=
  match q84 (look none h) 10000 (q4i args) [] with
  | ks => match E.isO f && st, ks.getLast? with
   | true, some k => .error [105, k]
   | _, _ => match lendL h ks ks, j3h ks && inBL ks args with
    | some L, true => match runF E rec f (AV.renL (inv ks) args) L with
      | .error e => .error e
      | .ok (L', y) => match lostB ks L L', st with
       | some j, true => .error [105, j]
       | _, _ => match Nat.ble L'.length (L.length + 8) with
        | true => .ok ⟨y.ren (rho ks n), ks, wrK (rho ks n) 1000000 (j3a L L') L'⟩
        | false => .error [215, f, L'.length]
    | _, _ => .error [216, f]
def loopF (b : XS → R (Exit × XS)) : Nat → XS → R (Exit × XS)
  | 0, _ => .error [224]
  | k + 1, s => match b s with
    | .ok (.normal, s') => loopF b k s'
    | r => r
def regF (E : Env) (st : Bool) (rec : Nat → Code → XS → R (Exit × XS)) (N id : Nat) (ops : Array Oper) (d : Bool) (s : XS) : R (Exit × XS) :=
  match Nat.ble N 1000000 && dstOk ops N && Nat.ble (s.n + 8 * ops.toList.length) L0 with
  | false => .error [225]
  | true => match opsF E.ty E.gl (j1z E st rec) ops ops.toList s [] with
    | .ok (s', fs) => match !d || okD ops fs.reverse with
      | true => .ok (.normal, s')
      | false => .error [220, id]
    | .error e => .error (id :: e)
def regT (E : Env) (rec : Nat → Code → XS → R (Exit × XS)) (N id : Nat) (ops : Array Oper) (d : Bool) : Nat → XS → R (Exit × XS)
  | 0, s => regF E false rec N id ops d s
  | k + 1, s => match regF E true rec N id ops d s with
    | .error [_, _, 105, j] => match frz N j s with
      | some s' => regT E rec N id ops d k s'
      | none => regF E false rec N id ops d s
    | r => r
def exF (E : Env) (rec : Nat → Code → XS → R (Exit × XS)) (N : Nat) : Code → XS → R (Exit × XS)
  | .skip, s => .ok (.normal, s)
  | .ret, s => .ok (.ret, s)
  | .exit id, s => .ok (.exit id, s)
  | .label _, s => .ok (.normal, s)
  | .region id ops d, s => regT E rec N id ops d 8 s
  | .seq x y, s => match rec N x s with
    | .ok (.normal, s') => rec N y s'
    | .ok (.ret, s') => .ok (.ret, s')
    | .ok (.exit i, s') => .ok (.exit i, s')
    | .ok _ => .error [230]
    | .error e => .error e
  | .block id x, s => match rec N x s with
    | .ok (.normal, s') => .ok (.normal, s')
    | .ok (.ret, s') => .ok (.ret, s')
    | .ok (.exit i, s') => match Nat.beq i id with | true => .ok (.normal, s') | false => .ok (.exit i, s')
    | .ok _ => .error [231]
    | .error e => .error e
  | .cond c x y, s => match ev (tget s.l) c, okxB (tget s.l) c with
    | .c (.v (.bool true)), true => rec N x s
    | .c (.v (.bool false)), true => rec N y s
    | _, _ => .error [221]
  | .loop x, s => loopF (rec N x) 100000 s
  | .scope x, s => match rec N x s with
    | .ok (.normal, s') => .ok (.normal, s')
    | .ok (.ret, s') => .ok (.ret, s')
    | .ok (.exit i, s') => .ok (.exit i, s')
    | .ok _ => .error [232]
    | .error e => .error e
  | _, _ => .error [222]
def ex (E : Env) : Nat → Nat → Code → XS → R (Exit × XS)
  | 0 => fun _ _ _ => .error [223]
  | f + 1 => exF E (ex E f)
mutual
def eqPV : PV → PV → Bool
  | .v (.int k a), .v (.int k' b) => Nat.beq k.ctorIdx k'.ctorIdx && eqI a b
  | .v (.string a), .v (.string b) => sEq a b
  | .v (.bool a), .v (.bool b) => a == b
  | .v (.slice none 0 0), .sl _ [] => true
  | .v (.slice none 0 0), .v (.slice none 0 0) => true
  | .sl z es, .sl z' es' => Nat.beq z z' && j2b es es'
  | _, _ => false
def j2c : List PV → List PV → Bool
  | [], [] => true
  | x :: l, y :: m => eqPV x y && j2c l m
  | _, _ => false
def j2b : List (List PV) → List (List PV) → Bool
  | [], [] => true
  | x :: l, y :: m => j2c x y && j2b l m
  | _, _ => false
end
def eqAV1 : AV → AV → Bool
  | .c p, .c q => eqPV p q
  | _, _ => false
def j18 : List AV → List AV → Bool
  | [], [] => true
  | x :: l, y :: m => eqAV1 x y && j18 l m
  | _, _ => false
def eqAV : AV → AV → Bool
  | .agg l, .agg m => j18 l m
  | x, y => eqAV1 x y
def j19 : List AV → List AV → Bool
  | [], [] => true
  | x :: l, y :: m => eqAV x y && j19 l m
  | _, _ => false
def orcL : List (FuncId × List AV × AV) → FuncId → List AV → Option AV
  | [], _, _ => none
  | p :: l, f, a => match Nat.beq p.1 f && j19 a p.2.1 with | true => some p.2.2 | false => orcL l f a
end Ex

end Go.Proofs.YthkofkaocipomaaGreatDoor
