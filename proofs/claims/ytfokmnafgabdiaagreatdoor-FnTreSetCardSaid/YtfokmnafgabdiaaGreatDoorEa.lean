/- Merged: Eng1, Eng2, Eng3, Eng4, Eng5, Eng6, Eng7, Eng8, Eng9, Eng10, Eng11, Eng12, Eng13, Eng14, Eng15, Eng16. -/
import GoSem.Claim
import Derived.Calls
import Derived.Below
import Derived.Laws.Cells
import Derived.Laws.BytesArg
import Derived.Laws.Tables
import Derived.Laws.CopyRow
namespace Go.Proofs.YtfokmnafgabdiaaGreatDoor.Eng
open Go

inductive C where
  | lit (v : Value)
  | ro (sz : Nat) (rows : List (List C))
  | any
  | err
  deriving Inhabited

inductive Pt where
  | ptr (n i j : Nat)
  | rp (cells : List C)
  deriving Inhabited

inductive V1 where
  | c (x : C)
  | nil (sz : Nat)
  | ref (n off len : Nat) (cap : Option Nat)
  | pt (p : Pt)
  | clo (g : FuncId) (caps : List Pt)
  deriving Inhabited

inductive W where
  | one (x : V1)
  | agg (xs : List V1)
  deriving Inhabited

inductive V where
  | w (x : W)
  | tup (xs : List W)
  | dead
  deriving Inhabited

inductive Root where
  | var (cells : List V1)
  | rows (sz : Nat) (rs : List (List C))
  | fro (sz : Nat) (rs : List (List C))
  | dead
  deriving Inhabited

structure St where
  tmps : List V
  heap : List Root
  deriving Inhabited

def Pt.ids : Pt → List Nat
  | .ptr n _ _ => [n]
  | .rp _ => []
def V1.ids : V1 → List Nat
  | .ref n _ _ _ => [n]
  | .pt p => p.ids
  | .clo _ caps => caps.flatMap Pt.ids
  | _ => []
def W.ids : W → List Nat
  | .one x => x.ids
  | .agg xs => xs.flatMap V1.ids
def V.ids : V → List Nat
  | .w x => x.ids
  | .tup xs => xs.flatMap W.ids
  | .dead => []
def Root.ids : Root → List Nat
  | .var cells => cells.flatMap V1.ids
  | _ => []

inductive B0 where
  | c (x : C)
  | own (sz : Nat) (rs : List (List C)) (cap : Option Nat)
  deriving Inhabited
inductive B1 where
  | b (x : B0)
  | pv (cells : List B0)
  | rp (cells : List C)
  | clo (g : FuncId) (caps : List (List C))
  deriving Inhabited
inductive BW where
  | one (x : B1)
  | agg (xs : List B1)
  deriving Inhabited
inductive BV where
  | w (x : BW)
  | tup (xs : List BW)
  deriving Inhabited

inductive TK where
  | int (k : IntKind) | bool | string | slice (elem : TypeId) | struct (fs : List (Nat × TypeId)) | other
  deriving Inhabited
structure TI where
  kind : TK
  size : Nat
  bytes : Nat
  zero : List V1
  deriving Inhabited
def TI.isAgg (i : TI) : Bool := match i.kind with | .struct _ => true | _ => false

def mapO {α β : Type} (f : α → Option β) : List α → Option (List β)
  | [] => some []
  | x :: xs => match f x with
    | some y => match mapO f xs with
      | some ys => some (y :: ys)
      | none => none
    | none => none

structure Env where
  ty : TypeId → Option TI
  fn : FuncId → Option Func
  given : FuncId → Option (List BW → Option BV)
  inl : FuncId → Bool
  roImp : FuncId → Bool
  eqOk : TypeId → Bool

def C.int (n : Int) : C := .lit (.int .i64 n)
def C.bool (b : Bool) : C := .lit (.bool b)
def vlit (v : Value) : V := .w (.one (.c (.lit v)))
def vone (x : V1) : V := .w (.one x)

def put : List Root → Nat → Root → List Root
  | [], 0, r => [r]
  | [], n + 1, r => .dead :: put [] n r
  | _ :: hs, 0, r => r :: hs
  | h :: hs, n + 1, r => h :: put hs n r
def rget (h : List Root) (n : Nat) : Root := h.getD n .dead
def puts (h : List Root) (n : Nat) : List Root → List Root
  | [] => h
  | r :: rs => puts (put h n r) (n + 1) rs

def V.cells : V → Option (List V1)
  | .w (.one x) => some [x]
  | .w (.agg xs) => some xs
  | _ => none
def V.w? : V → Option W
  | .w x => some x
  | _ => none

def constCell (sz : Nat) : Value → Option V1
  | .slice none 0 0 => some (.nil sz)
  | .slice .. => none
  | .agg _ => none
  | .tuple _ => none
  | v => some (.c (.lit v))
def constPart (p : Value × V1) : Option V1 := match p.2 with
  | .nil s => constCell s p.1
  | _ => constCell 0 p.1
def constV (E : Env) (t : TypeId) (v : Value) : Option V :=
  match v with
  | .agg cs => match E.ty t with
    | some i => if cs.size = i.zero.length then (mapO constPart (cs.toList.zip i.zero)).map fun xs => .w (.agg xs) else none
    | none => none
  | .slice none 0 0 => match E.ty t with
    | some { kind := .slice e, .. } => match E.ty e with
      | some i => some (vone (.nil i.size))
      | none => none
    | _ => none
  | v => (constCell 0 v).map vone

def opd (E : Env) (tmps : List V) (t : TypeId) : Operand → Option V
  | .tmp n => match tmps[n]? with
    | some .dead => none
    | x => x
  | .const v => constV E t v
  | .func f => some (vone (.clo f []))
  | .global _ => none

def Root.sz? : Root → Option Nat
  | .rows sz _ => some sz
  | .fro sz _ => some sz
  | _ => none
def Root.ro? : Root → Nat → Nat → Option C
  | .rows sz rs, off, len => some (.ro sz ((rs.drop off).take len))
  | .fro sz rs, off, len => some (.ro sz ((rs.drop off).take len))
  | _, _, _ => none
def closeC (h : List Root) : V1 → Option C
  | .c x => some x
  | .nil sz => some (.ro sz [])
  | .ref n off len _ => (rget h n).ro? off len
  | .pt _ => none
  | .clo _ _ => none
def closeCs (h : List Root) (xs : List V1) : Option (List C) := mapO (closeC h) xs
def cellsAt (h : List Root) : Pt → Option (List V1)
  | .rp cells => some (cells.map .c)
  | .ptr n i j => match rget h n with
    | .var cells => if i = 0 then some (cells.drop j) else none
    | .rows _ rs => (rs[i]?).map fun r => (r.drop j).map .c
    | .fro _ rs => (rs[i]?).map fun r => (r.drop j).map .c
    | .dead => none
def closePt (h : List Root) (p : Pt) : Option (List C) := (cellsAt h p).map (·.map fun x => (closeC h x).getD .any)
def closeRo (h : List Root) : V1 → Option B1
  | .pt p => (closePt h p).map .rp
  | .clo g caps => (mapO (closePt h) caps).map (.clo g)
  | x => (closeC h x).map fun c => .b (.c c)
def closeRoW (h : List Root) : W → Option BW
  | .one x => (closeRo h x).map .one
  | .agg xs => (mapO (closeRo h) xs).map .agg

def giveB0 (h : List Root) : V1 → Option (B0 × List Root)
  | .c x => some (.c x, h)
  | .nil sz => some (.own sz [] none, h)
  | .ref n off len cap => match rget h n with
    | .rows sz rs => some (.own sz ((rs.drop off).take len) cap, put h n .dead)
    | .fro sz rs => some (.c (.ro sz ((rs.drop off).take len)), h)
    | _ => none
  | .pt _ => none
  | .clo _ _ => none
def give (h : List Root) : V1 → Option (B1 × List Root)
  | .pt (.ptr _ _ _) => none
  | .pt (.rp cells) => some (.rp cells, h)
  | .clo g [] => some (.clo g [], h)
  | .clo _ _ => none
  | .c x => some (.b (.c x), h)
  | .nil sz => some (.b (.own sz [] none), h)
  | .ref n off len cap => (giveB0 h (.ref n off len cap)).map fun (b, h) => (.b b, h)
def gives (h : List Root) : List V1 → Option (List B1 × List Root)
  | [] => some ([], h)
  | x :: xs => match give h x with
    | some (b, h) => match gives h xs with
      | some (bs, h) => some (b :: bs, h)
      | none => none
    | none => none
def giveW (h : List Root) : W → Option (BW × List Root)
  | .one x => (give h x).map fun p => (.one p.1, p.2)
  | .agg xs => (gives h xs).map fun p => (.agg p.1, p.2)
def giveWs (h : List Root) : List W → Option (List BW × List Root)
  | [] => some ([], h)
  | x :: xs => match giveW h x with
    | some (b, h) => match giveWs h xs with
      | some (bs, h) => some (b :: bs, h)
      | none => none
    | none => none
def giveV (h : List Root) : V → Option BV
  | .w x => (giveW h x).map fun p => .w p.1
  | .tup xs => (giveWs h xs).map fun p => .tup p.1
  | .dead => none

def takeB0 (n : Nat) : B0 → V1 × List Root
  | .c x => (.c x, [])
  | .own sz rs cap => (.ref n 0 rs.length cap, [.rows sz rs])
def takeB0s (n : Nat) : List B0 → List V1 × List Root
  | [] => ([], [])
  | b :: bs =>
    let (x, r) := takeB0 n b
    let (xs, rs) := takeB0s (n + r.length) bs
    (x :: xs, r ++ rs)
def takeB1 (n : Nat) : B1 → V1 × List Root
  | .b x => takeB0 n x
  | .pv cells => let (xs, rs) := takeB0s (n + 1) cells; (.pt (.ptr n 0 0), .var xs :: rs)
  | .rp cells => (.pt (.rp cells), [])
  | .clo g caps => (.clo g (caps.map .rp), [])
def takeB1s (n : Nat) : List B1 → List V1 × List Root
  | [] => ([], [])
  | b :: bs =>
    let (x, r) := takeB1 n b
    let (xs, rs) := takeB1s (n + r.length) bs
    (x :: xs, r ++ rs)
def takeW (n : Nat) : BW → W × List Root
  | .one x => let (y, r) := takeB1 n x; (.one y, r)
  | .agg xs => let (ys, r) := takeB1s n xs; (.agg ys, r)
def takeWs (n : Nat) : List BW → List W × List Root
  | [] => ([], [])
  | b :: bs =>
    let (x, r) := takeW n b
    let (xs, rs) := takeWs (n + r.length) bs
    (x :: xs, r ++ rs)
def takeV (n : Nat) : BV → V × List Root
  | .w x => let (y, r) := takeW n x; (.w y, r)
  | .tup xs => let (ys, r) := takeWs n xs; (.tup ys, r)

def B0.toRo : B0 → B0
  | .own sz rs _ => .c (.ro sz rs)
  | x => x
def B1.toRo : B1 → B1
  | .b x => .b x.toRo
  | x => x
def BW.toRo : BW → BW
  | .one x => .one x.toRo
  | .agg xs => .agg (xs.map B1.toRo)
def BV.toRo : BV → BV
  | .w x => .w x.toRo
  | .tup xs => .tup (xs.map BW.toRo)

def B1.noPv : B1 → Bool
  | .pv _ => false
  | _ => true
def BW.noPv : BW → Bool
  | .one x => x.noPv
  | .agg xs => xs.all B1.noPv
def BV.noPv : BV → Bool
  | .w x => x.noPv
  | .tup xs => xs.all BW.noPv
def imp (ro : Bool) (n : Nat) (r : BV) : Option (V × List Root) :=
  if ro then (if r.noPv then some (takeV n r.toRo) else none) else some (takeV n r)

def C.flat : C → Bool
  | .lit _ => true
  | .ro _ rows => rows.isEmpty
  | .any => true
  | .err => true
def B0.flat : B0 → Bool
  | .c x => x.flat
  | .own _ rs _ => rs.all (·.all C.flat)
def B1.flat : B1 → Bool
  | .b x => x.flat
  | _ => false
def BW.flat : BW → Bool
  | .one x => x.flat
  | .agg xs => xs.all B1.flat
def BV.flat : BV → Bool
  | .w x => x.flat
  | .tup xs => xs.all BW.flat

def C.untie (x : C) : C := if x.flat then x else .any
def rowsUntie (rs : List (List C)) : List (List C) := if rs.all (·.all C.flat) then rs else rs.map (·.map C.untie)
def B0.untie : B0 → B0
  | .c x => .c x.untie
  | .own sz rs cap => .own sz (rowsUntie rs) cap
def B1.untie : B1 → B1
  | .b x => .b x.untie
  | .pv cells => .pv (cells.map B0.untie)
  | .rp cells => .rp (cells.map fun _ => .any)
  | .clo g caps => .clo g caps
def B1.tied : B1 → Bool
  | .rp _ => true
  | .clo _ caps => !caps.isEmpty
  | _ => false
def BW.untie : BW → BW
  | .one x => .one x.untie
  | .agg xs => .agg (xs.map B1.untie)
def BW.tied : BW → Bool
  | .one x => x.tied
  | .agg xs => xs.any B1.tied
def BV.untie : BV → BV
  | .w x => .w x.untie
  | .tup xs => .tup (xs.map BW.untie)
def BV.tied : BV → Bool
  | .w x => x.tied
  | .tup xs => xs.any BW.tied

end Go.Proofs.YtfokmnafgabdiaaGreatDoor.Eng
namespace Go.Proofs.YtfokmnafgabdiaaGreatDoor.Eng
open Go

def litEq : Value → Value → Option Bool
  | .int k a, .int k' b => if k = k' then some (a == b) else none
  | .string a, .string b => some (a.toList == b.toList)
  | .bool a, .bool b => some (a == b)
  | _, _ => none
def intBin (op : BinOp) (k : IntKind) (a b : Int) : Option Value :=
  match op with
  | .add => some (.int k (k.wrap (a + b)))
  | .sub => some (.int k (k.wrap (a - b)))
  | .mul => some (.int k (k.wrap (a * b)))
  | .quo => if b = 0 then none else some (.int k (k.wrap (a.tdiv b)))
  | .rem => if b = 0 then none else some (.int k (a.tmod b))
  | .and => some (.int k (k.wrap ((BitVec.ofInt k.bits a &&& BitVec.ofInt k.bits b).toNat : Int)))
  | .or => some (.int k (k.wrap ((BitVec.ofInt k.bits a ||| BitVec.ofInt k.bits b).toNat : Int)))
  | .xor => some (.int k (k.wrap ((BitVec.ofInt k.bits a ^^^ BitVec.ofInt k.bits b).toNat : Int)))
  | .eql => some (.bool (a == b))
  | .neq => some (.bool (a != b))
  | .lss => some (.bool (decide (a < b)))
  | .leq => some (.bool (decide (a ≤ b)))
  | .gtr => some (.bool (decide (a > b)))
  | .geq => some (.bool (decide (a ≥ b)))
  | _ => none
def strMost : Nat := 2 ^ 40
def strBin (op : BinOp) (a b : ByteArray) : Option Value :=
  match op with
  | .add => if a.size + b.size ≤ strMost then some (.string (a ++ b)) else none
  | .eql => some (.bool (a.toList == b.toList))
  | .neq => some (.bool !(a.toList == b.toList))
  | _ => none
def litBin (op : BinOp) : Value → Value → Option Value
  | .int k a, .int k' b => if k = k' then intBin op k a b else none
  | .string a, .string b => strBin op a b
  | _, _ => none
def boolBin (op : BinOp) (a b : Bool) : Option Value := match op with
  | .eql => some (.bool (a == b))
  | .neq => some (.bool !(a == b))
  | _ => none
def cellsEq : List V1 → List V1 → Option Bool
  | [], [] => some true
  | .c (.lit u) :: xs, .c (.lit v) :: ys => match litEq u v, cellsEq xs ys with
    | some p, some q => some (p && q)
    | _, _ => none
  | _, _ => none
def isBoolT (E : Env) (t : TypeId) : Bool := match E.ty t with
  | some { kind := .bool, .. } => true
  | _ => false
def binV (op : BinOp) (isB eqOk : Bool) : V → V → Option V
  | .w (.one (.c (.lit (.bool a)))), .w (.one (.c (.lit (.bool b)))) => if isB then (boolBin op a b).map vlit else none
  | .w (.one (.c (.lit u))), .w (.one (.c (.lit v))) => (litBin op u v).map vlit
  | .w (.agg xs), .w (.agg ys) => if eqOk then match op with
      | .eql => (cellsEq xs ys).map fun p => vlit (.bool p)
      | .neq => (cellsEq xs ys).map fun p => vlit (.bool !p)
      | _ => none else none
  | _, _ => none
def unV (op : UnOp) : V → Option V
  | .w (.one (.c (.lit (.bool b)))) => match op with
    | .not => some (vlit (.bool !b))
    | _ => none
  | .w (.one (.c (.lit (.int k n)))) => match op with
    | .neg => some (vlit (.int k (k.wrap (0 - n))))
    | _ => none
  | _ => none

def intOf? : V → Option Int
  | .w (.one (.c (.lit (.int _ n)))) => some n
  | _ => none
def boolOf? : V → Option Bool
  | .w (.one (.c (.lit (.bool b)))) => some b
  | _ => none
def rowsOf (h : List Root) : V1 → Option (Nat × List (List C))
  | .c (.ro sz rows) => some (sz, rows)
  | .nil sz => some (sz, [])
  | .ref n off len _ => match (rget h n).ro? off len with
    | some (.ro sz rows) => some (sz, rows)
    | _ => none
  | _ => none
def bytesOf : List (List C) → Option (List UInt8)
  | [] => some []
  | [.lit (.int .u8 n)] :: r => (bytesOf r).map (UInt8.ofNat n.toNat :: ·)
  | _ => none

def asType (i : TI) (cells : List V1) (j : Nat) : Option V :=
  let cs := (cells.drop j).take i.size
  if cs.length = i.size then
    if i.isAgg then some (.w (.agg cs)) else match cs with
      | [x] => some (vone x)
      | _ => none
  else none
def splice {α : Type} (cells : List α) (j : Nat) (xs : List α) : Option (List α) :=
  if j + xs.length ≤ cells.length then some (cells.take j ++ xs ++ cells.drop (j + xs.length)) else none
def fieldOf (i : TI) (f : Nat) : Option (Nat × TypeId) := match i.kind with
  | .struct fs => fs[f]?
  | _ => none
def fillParts (E : Env) (i : TI) : List V1 → List (Nat × V) → Option (List V1)
  | cells, [] => some cells
  | cells, (f, v) :: rest => match fieldOf i f, v.cells with
    | some (off, t), some xs => match E.ty t with
      | some j => if xs.length = j.size then match splice cells off xs with
          | some cells => fillParts E i cells rest
          | none => none else none
      | none => none
    | _, _ => none
def quietC : V1 → Option C
  | .c x => some x
  | .nil sz => some (.ro sz [])
  | _ => none
def fillRows (sz : Nat) : List (List C) → List (Nat × V) → Option (List (List C))
  | rows, [] => some rows
  | rows, (i, v) :: rest => match v.cells with
    | some xs => match mapO quietC xs with
      | some cs => if cs.length = sz ∧ i < rows.length then fillRows sz (rows.set i cs) rest else none
      | none => none
    | none => none
def mostRows : Nat := 2 ^ 22

def opds (E : Env) (tmps : List V) : List (TypeId × Operand) → Option (List V)
  | [] => some []
  | (t, x) :: r => match opd E tmps t x, opds E tmps r with
    | some v, some vs => some (v :: vs)
    | _, _ => none
def ptrOf : V → Option Pt
  | .w (.one (.pt p)) => some p
  | _ => none
def bound? (E : Env) (tmps : List V) : Option Operand → Option (Option Int)
  | none => some none
  | some x => match opd E tmps 0 x with
    | some v => (intOf? v).map some
    | none => none
def cutAt (len : Nat) (lo hi mx : Option Int) : Option (Nat × Nat) :=
  let m : Int := mx.getD len
  let h : Int := hi.getD len
  let l : Int := lo.getD 0
  if 0 ≤ l ∧ l ≤ h ∧ h ≤ m ∧ m ≤ len ∧ (mx.isSome → hi.isSome) then some (l.toNat, h.toNat) else none

def touches : V1 → Bool
  | .ref _ _ _ _ => true
  | .pt (.ptr _ _ _) => true
  | .clo _ caps => caps.any fun | .ptr _ _ _ => true | .rp _ => false
  | _ => false
def V.touches (v : V) : Bool := match v.cells with
  | some xs => xs.any Eng.touches
  | none => true
abbrev CallF := FuncId → List BW → Option BV
abbrev CallH := FuncId → Nat → Nat → List Root → List W → Option (V × List Root × Nat)
def argW (v : V) : Option W := v.w?
def calleeOf (E : Env) (tmps : List V) (c : Call) : Option (FuncId × List W) :=
  match c.callee with
  | .value f => match opd E tmps 0 f with
    | some (.w (.one (.clo g caps))) =>
      if c.args.size = c.argTypes.size then match opds E tmps (c.argTypes.toList.zip c.args.toList) with
        | some vs => match mapO argW vs with
          | some ws => some (g, ws ++ caps.map fun p => .one (.pt p))
          | none => none
        | none => none else none
    | _ => none
  | _ => none
def wTouches : W → Bool
  | .one x => touches x
  | .agg xs => xs.any touches
def quietCall (E : Env) (call : CallF) (tmps : List V) (h : List Root) (start : Nat) (c : Call) : Option (V × List Root) :=
  match calleeOf E tmps c with
  | some (g, ws) =>
    if E.inl g then none else
    match mapO (closeRoW h) ws with
    | some bs => match call g bs with
      | some r =>
        let r := if ws.any wTouches then r.untie else r
        if ws.any wTouches && r.tied then none else imp (E.roImp g) start r
      | none => none
    | none => none
  | none => none

def evQ (E : Env) (call : CallF) (tmps : List V) (h : List Root) (start : Nat) (ty : TypeId) : Op → Option (V × List Root)
  | .move x => (opd E tmps ty x).map (·, [])
  | .assign x => (opd E tmps ty x).map (·, [])
  | .pick c a b => match (opd E tmps 0 c).bind boolOf?, opd E tmps ty a, opd E tmps ty b with
    | some p, some u, some v => some (if p then u else v, [])
    | _, _, _ => none
  | .alloc t => (E.ty t).map fun i => (vone (.pt (.ptr start 0 0)), [.var i.zero])
  | .box t x => match (opd E tmps t x).bind V.cells with
    | some xs => some (vone (.pt (.ptr start 0 0)), [.var xs])
    | none => none
  | .build t parts => match E.ty t with
    | some i => match i.kind with
      | .struct fs => match opds E tmps (parts.toList.map fun p => (((fs[p.1]?).map (·.2)).getD 0, p.2)) with
        | some vs => (fillParts E i i.zero ((parts.toList.map (·.1)).zip vs)).map fun cs => (.w (.agg cs), [])
        | none => none
      | _ => none
    | none => none
  | .buildSlice t len parts => match E.ty t with
    | some { kind := .slice e, .. } => match E.ty e with
      | some i => if len * i.size ≤ 2 ^ 24 then match mapO quietC i.zero, opds E tmps (parts.toList.map fun p => (e, p.2)) with
          | some z, some vs => (fillRows i.size (List.replicate len z) ((parts.toList.map (·.1)).zip vs)).map fun rs => (vone (.ref start 0 len none), [.rows i.size rs])
          | _, _ => none else none
      | none => none
    | _ => none
  | .load t a => match E.ty t, (opd E tmps 0 a).bind ptrOf with
    | some i, some p => match cellsAt h p with
      | some cs => (asType i cs 0).map (·, [])
      | none => none
    | _, _ => none
  | .binOp op t x y _ => match opd E tmps t x, opd E tmps t y with
    | some u, some v => (binV op (isBoolT E t) (E.eqOk t) u v).map (·, [])
    | _, _ => none
  | .unOp op t x => match opd E tmps t x with
    | some u => (unV op u).map (·, [])
    | none => none
  | .convert src dst x => match E.ty src, E.ty dst, opd E tmps src x with
    | some s, some d, some v => match d.kind, v with
      | .int k, .w (.one (.c (.lit (.int _ n)))) => some (vlit (.int k (k.wrap n)), [])
      | .string, .w (.one (.c (.lit (.int _ n)))) => some (vlit (.string (Utf8.encode n)), [])
      | .string, .w (.one (.c (.lit (.string b)))) => some (vlit (.string b), [])
      | .string, .w (.one y) => match s.kind with
        | .slice e => match E.ty e, rowsOf h y with
          | some { kind := .int .u8, .. }, some (1, rows) => (bytesOf rows).map fun l => (vlit (.string ⟨l.toArray⟩), [])
          | _, _ => none
        | _ => none
      | _, _ => none
    | _, _, _ => none
  | .makeFunc (.func g) first captured =>
    if first.size = 0 then match opds E tmps (captured.toList.map fun x => (0, x)) with
      | some vs => (mapO ptrOf vs).map fun ps => (vone (.clo g ps), [])
      | none => none else none
  | .makeSlice t len cap => match E.ty t with
    | some { kind := .slice e, .. } => match E.ty e, (opd E tmps 0 len).bind intOf?, (opd E tmps 0 cap).bind intOf? with
      | some i, some n, some m => if 0 ≤ n ∧ n ≤ m ∧ m ≤ mostRows ∧ i.bytes ≤ 1024 then match mapO quietC i.zero with
          | some z => some (vone (.ref start 0 n.toNat none), [.rows i.size (List.replicate n.toNat z)])
          | none => none else none
      | _, _, _ => none
    | _ => none
  | .slice t x lo hi mx => match E.ty t, opd E tmps t x, bound? E tmps lo, bound? E tmps hi, bound? E tmps mx with
    | some T, some (.w (.one y)), some l, some r, some m => match T.kind with
      | .string => match y with
        | .c (.lit (.string s)) => if m.isSome then none else (cutAt s.size l r m).map fun p => (vlit (.string (s.extract p.1 p.2)), [])
        | _ => none
      | .slice e => match E.ty e with
        | some j => match y with
          | .c (.ro sz rows) => if sz = j.size then (cutAt rows.length l r m).map fun p => (vone (.c (.ro sz ((rows.drop p.1).take (p.2 - p.1)))), []) else none
          | .nil sz => (cutAt 0 l r m).map fun _ => (vone (.nil sz), [])
          | .ref n off len cap => match (rget h n).sz? with
            | some sz => if sz = j.size then (cutAt len l r m).map fun p => (vone (.ref n (off + p.1) (p.2 - p.1) (match m with | some m => some (m.toNat - p.1) | none => cap.map (· - p.1))), []) else none
            | none => none
          | _ => none
        | none => none
      | _ => none
    | _, _, _, _, _ => none
  | .fieldAddr t x f => match E.ty t, (opd E tmps 0 x).bind ptrOf with
    | some i, some p => match fieldOf i f with
      | some (off, u) => match E.ty u with
        | some j => if j.size = 0 then none else match p with
          | .rp cells => some (vone (.pt (.rp (cells.drop off))), [])
          | .ptr n k j => some (vone (.pt (.ptr n k (j + off))), [])
        | none => none
      | none => none
    | _, _ => none
  | .field t x f => match E.ty t, opd E tmps t x with
    | some i, some (.w (.agg cs)) => match fieldOf i f with
      | some (off, u) => match E.ty u with
        | some j => (asType j cs off).map (·, [])
        | none => none
      | none => none
    | _, _ => none
  | .indexAddr t x ix => match E.ty t, opd E tmps t x, (opd E tmps 0 ix).bind intOf? with
    | some { kind := .slice e, .. }, some (.w (.one y)), some i => match E.ty e with
      | some j => match y with
        | .c (.ro sz rows) => if sz = j.size ∧ 0 ≤ i ∧ 0 < sz then (rows[i.toNat]?).map fun r => (vone (.pt (.rp r)), []) else none
        | .ref n off len _ => match (rget h n).sz? with
          | some sz => if sz = j.size ∧ 0 ≤ i ∧ i < len then some (vone (.pt (.ptr n (off + i.toNat) 0)), []) else none
          | none => none
        | _ => none
      | none => none
    | _, _, _ => none
  | .index t x ix => match E.ty t, opd E tmps t x, (opd E tmps 0 ix).bind intOf? with
    | some { kind := .string, .. }, some (.w (.one (.c (.lit (.string s))))), some i =>
      if 0 ≤ i then (s.data.toList[i.toNat]?).map fun b => (vlit (.int .u8 b.toNat), []) else none
    | _, _, _ => none
  | .nilCheck x => match opd E tmps ty x with
    | some (.w (.one (.pt p))) => some (vone (.pt p), [])
    | some (.w (.one (.clo g caps))) => some (vone (.clo g caps), [])
    | _ => none
  | .extract x i => match opd E tmps 0 x with
    | some (.tup xs) => (xs[i]?).map fun y => (.w y, [])
    | _ => none
  | .call c => match c.callee with
    | .builtin .len => match c.args.toList, c.argTypes.toList with
      | [x], [t] => match E.ty t, opd E tmps t x with
        | some T, some (.w (.one y)) => match T.kind, y with
          | .string, .c (.lit (.string s)) => some (vlit (.int .i64 s.size), [])
          | .slice _, y => (rowsOf h y).map fun p => (vlit (.int .i64 p.2.length), [])
          | _, _ => none
        | _, _ => none
      | _, _ => none
    | .builtin .cap => match c.args.toList, c.argTypes.toList with
      | [x], [t] => match E.ty t, opd E tmps t x with
        | some { kind := .slice _, .. }, some (.w (.one (.ref n _ _ (some k)))) => match (rget h n).sz? with
          | some _ => some (vlit (.int .i64 k), [])
          | none => none
        | _, _ => none
      | _, _ => none
    | .builtin .max => match c.args.toList with
      | [x, y] => match opd E tmps ty x, opd E tmps ty y with
        | some (.w (.one (.c (.lit (.int k a))))), some (.w (.one (.c (.lit (.int _ b))))) => some (vlit (.int k (if b > a then b else a)), [])
        | _, _ => none
      | _ => none
    | .builtin .min => match c.args.toList with
      | [x, y] => match opd E tmps ty x, opd E tmps ty y with
        | some (.w (.one (.c (.lit (.int k a))))), some (.w (.one (.c (.lit (.int _ b))))) => some (vlit (.int k (if b < a then b else a)), [])
        | _, _ => none
      | _ => none
    | .value _ => quietCall E call tmps h start c
    | _ => none
  | _ => none

def reach (h : List Root) : Nat → List Nat → List Nat
  | 0, F => F
  | k + 1, F => match (F.flatMap fun n => (rget h n).ids).filter fun n => !F.contains n with
    | [] => F
    | G => reach h k (F ++ G)
def closedIn (h : List Root) (F : List Nat) : Bool := F.all fun n => (rget h n).ids.all F.contains
def wCells : W → List V1
  | .one x => [x]
  | .agg xs => xs
def killV1 (h : List Root) : V1 → List Root
  | .ref n _ _ _ => put h n .dead
  | _ => h
def killV1s (h : List Root) (xs : List V1) : List Root := xs.foldl killV1 h
def storeAt (h : List Root) (p : Pt) (xs : List V1) : Option (List Root) :=
  match p with
  | .rp _ => none
  | .ptr n i j => match rget h n with
    | .var cells => if i = 0 then (splice cells j xs).map fun cs => put h n (.var cs) else none
    | .rows _ _ => match closeCs h xs with
      | some cs =>
        let h' := killV1s h xs
        match rget h' n with
        | .rows sz rs => match rs[i]? with
          | some row => (splice row j cs).map fun r => put h' n (.rows sz (rs.set i r))
          | none => none
        | _ => none
      | none => none
    | _ => none
def grownFrom (h : List Root) (n : Nat) (cap : Option Nat) (need : Nat) : List Root :=
  match cap with
  | some k => if k < need then h else put h n .dead
  | none => put h n .dead
def appendRows (h : List Root) (start : Nat) (i : TI) (s : V1) (new : List (List C)) : Option (V × List Root) :=
  if i.bytes ≤ 1024 then match s with
    | .nil _ => if new.length ≤ mostRows then some (vone (.ref start 0 new.length none), put h start (.rows i.size new)) else none
    | .ref n off len cap => match rget h n with
      | .rows sz rs => if sz = i.size ∧ len + new.length ≤ mostRows then
          some (vone (.ref start 0 (len + new.length) none), put (grownFrom h n cap (len + new.length)) start (.rows sz ((rs.drop off).take len ++ new))) else none
      | _ => none
    | _ => none else none
def appendTo (E : Env) (h : List Root) (start : Nat) (e : TypeId) (s x : V1) : Option (V × List Root) :=
  match E.ty e, rowsOf h x with
  | some i, some (szx, new) => if szx = i.size ∨ new.isEmpty then appendRows h start i s new else none
  | _, _ => none
def appendZeros (E : Env) (h : List Root) (start : Nat) (e : TypeId) (s : V1) (k : Int) : Option (V × List Root) :=
  match E.ty e with
  | some i => match mapO quietC i.zero with
    | some z => if 0 ≤ k ∧ k ≤ mostRows then appendRows h start i s (List.replicate k.toNat z) else none
    | none => none
  | none => none
def overAt (h : List Root) (sz : Nat) (d : V1) (new : List (List C)) : Option (List Root) :=
  match d with
  | .nil _ => if new.isEmpty then some h else none
  | .ref n off len _ => match rget h n with
    | .rows sz' rs => if sz' = sz ∧ new.length ≤ len then (splice rs off new).map fun rs => put h n (.rows sz rs) else none
    | _ => none
  | _ => none
def copyTo (E : Env) (h : List Root) (e : TypeId) (d x : V1) : Option (V × List Root) :=
  match E.ty e, rowsOf h x, rowsOf h d with
  | some i, some (szx, new), some (_, old) =>
    let m := min new.length old.length
    if szx = i.size ∨ new.isEmpty then (overAt h i.size d (new.take m)).map fun h => (vlit (.int .i64 m), h) else none
  | _, _, _ => none
def clearAll (E : Env) (h : List Root) (e : TypeId) (d : V1) : Option (V × List Root) :=
  match E.ty e, rowsOf h d with
  | some i, some (_, old) => match mapO quietC i.zero with
    | some z => (overAt h i.size d (List.replicate old.length z)).map fun h => (.tup [], h)
    | none => none
  | _, _ => none
def sub : List Root → Nat → List Nat → List Root
  | [], _, _ => []
  | r :: h, k, F => (if F.contains k then r else .dead) :: sub h (k + 1) F
def mask (p : Nat → Bool) : List Root → Nat → List Root
  | [], _ => []
  | r :: h, k => (if p k then r else .dead) :: mask p h (k + 1)
def merge (p : Nat → Bool) : List Root → Nat → List Root → List Root
  | [], k, h' => mask p h' k
  | r :: h, k, h' => (if p k then h'.headD .dead else r) :: merge p h (k + 1) h'.tail
def sealW (h : List Root) : W → Option W
  | .one x => (closeC h x).map fun c => .one (.c c)
  | .agg xs => (closeCs h xs).map fun cs => .agg (cs.map .c)
def sealV (h : List Root) : V → Option (V × List Root)
  | .w x => (sealW h x).map fun y => (.w y, killV1s h (wCells x))
  | .tup xs => (mapO (sealW h) xs).map fun ys => (.tup ys, killV1s h (xs.flatMap wCells))
  | .dead => none
def loudCall (E : Env) (callH : CallH) (tmps : List V) (h : List Root) (start lim : Nat) (c : Call) : Option (V × List Root × Nat) :=
  match calleeOf E tmps c with
  | some (g, ws) =>
    if E.inl g then
      let F := reach h 8 (ws.flatMap W.ids)
      if closedIn h F && (ws.flatMap W.ids).all F.contains && F.all (fun n => n < start || lim ≤ n) then
        match callH g start lim (sub h 0 F) ws with
        | some (v, h', next) =>
          let h'' := merge (fun n => F.contains n || (start ≤ n && n < next)) h 0 h'
          if E.roImp g then (sealV h'' v).map fun p => (p.1, p.2, next) else some (v, h'', next)
        | none => none
      else none
    else none
  | none => none
def fillRowsL (h : List Root) (sz : Nat) : List (List C) → List (Nat × V) → Option (List (List C) × List Root)
  | rows, [] => some (rows, h)
  | rows, (i, v) :: rest => match v.cells with
    | some xs => match closeCs h xs with
      | some cs => if cs.length = sz ∧ i < rows.length then fillRowsL (killV1s h xs) sz (rows.set i cs) rest else none
      | none => none
    | none => none
def evL (E : Env) (callH : CallH) (tmps : List V) (h : List Root) (start lim : Nat) : Op → Option (V × List Root × Nat)
  | .store t a x => match E.ty t, (opd E tmps 0 a).bind ptrOf, (opd E tmps t x).bind V.cells with
    | some i, some p, some xs => if xs.length = i.size then (storeAt h p xs).map (.tup [], ·, start) else none
    | _, _, _ => none
  | .buildSlice t len parts => match E.ty t with
    | some { kind := .slice e, .. } => match E.ty e with
      | some i => if len * i.size ≤ 2 ^ 24 then match mapO quietC i.zero, opds E tmps (parts.toList.map fun p => (e, p.2)) with
          | some z, some vs => (fillRowsL h i.size (List.replicate len z) ((parts.toList.map (·.1)).zip vs)).map fun p => (vone (.ref start 0 len none), put p.2 start (.rows i.size p.1), start + 1)
          | _, _ => none else none
      | none => none
    | _ => none
  | .call c => match c.callee with
    | .builtin .append => match c.args.toList, c.argTypes.toList with
      | [s, x], [t, u] => match E.ty t, E.ty u, opd E tmps t s, opd E tmps u x with
        | some { kind := .slice e, .. }, some { kind := .slice _, .. }, some (.w (.one y)), some (.w (.one z)) => (appendTo E h start e y z).map fun p => (p.1, p.2, start + 1)
        | some { kind := .slice e, .. }, some { kind := .int _, .. }, some (.w (.one y)), some (.w (.one (.c (.lit (.int _ k))))) => (appendZeros E h start e y k).map fun p => (p.1, p.2, start + 1)
        | _, _, _, _ => none
      | _, _ => none
    | .builtin .copy => match c.args.toList, c.argTypes.toList with
      | [d, x], [t, u] => match E.ty t, E.ty u, opd E tmps t d, opd E tmps u x with
        | some { kind := .slice e, .. }, some { kind := .slice _, .. }, some (.w (.one y)), some (.w (.one z)) => (copyTo E h e y z).map fun p => (p.1, p.2, start)
        | _, _, _, _ => none
      | _, _ => none
    | .builtin .clear => match c.args.toList, c.argTypes.toList with
      | [d], [t] => match E.ty t, opd E tmps t d with
        | some { kind := .slice e, .. }, some (.w (.one y)) => (clearAll E h e y).map fun p => (p.1, p.2, start)
        | _, _ => none
      | _, _ => none
    | .value _ => loudCall E callH tmps h start lim c
    | _ => none
  | _ => none
def hasRef : V → Bool
  | .w (.one (.ref _ _ _ _)) => true
  | .w (.agg xs) => xs.any fun | .ref _ _ _ _ => true | _ => false
  | _ => false
def loud (E : Env) (tmps : List V) : Op → Bool
  | .store .. => true
  | .buildSlice _ _ parts => parts.toList.any fun p => match p.2 with | .tmp t => hasRef (tmps.getD t .dead) | _ => false
  | .call c => match c.callee with
    | .builtin .append => true
    | .builtin .copy => true
    | .builtin .clear => true
    | .value f => match opd E tmps 0 f with
      | some (.w (.one (.clo g _))) => E.inl g
      | _ => false
    | _ => false
  | _ => false

def setTmp (tmps : List V) (dst : Option Tmp) (v : V) : List V := match dst with
  | some d => tmps.set d v
  | none => tmps
def opStep (E : Env) (call : CallF) (callH : CallH) (start lim : Nat) (o : Oper) (S : St) : Option (St × Nat) :=
  if loud E S.tmps o.op then match evL E callH S.tmps S.heap start lim o.op with
    | some (v, h, next) => if start ≤ next ∧ next ≤ lim then some ({ tmps := setTmp S.tmps o.dst v, heap := h }, next) else none
    | none => none
  else match evQ E call S.tmps S.heap start o.type o.op with
    | some (v, new) => if start + new.length ≤ lim then some ({ tmps := setTmp S.tmps o.dst v, heap := puts S.heap start new }, start + new.length) else none
    | none => none
def wantedV (ops : Array Oper) (tmps : List V) (o : Oper) : Option Bool :=
  match o.guard with
  | none => some true
  | some (j, want) => match (ops[j]?).bind (·.dst) with
    | none => some false
    | some d => match tmps[d]? with
      | some (.w (.one (.c (.lit (.bool b))))) => some (b == want)
      | some (.tup []) => some false
      | _ => none
def guarded (E : Env) (call : CallF) (callH : CallH) (ops : Array Oper) (start lim : Nat) (o : Oper) (S : St) : Option (St × Nat) :=
  match wantedV ops S.tmps o with
  | some true => opStep E call callH start lim o S
  | some false => some ({ S with tmps := setTmp S.tmps o.dst (.tup []) }, start)
  | none => none
def execOps (E : Env) (call : CallF) (callH : CallH) (lim : Nat) (ops : Array Oper) : List Oper → St → Nat → Option (St × Nat)
  | [], S, nx => some (S, nx)
  | o :: rest, S, nx => match guarded E call callH ops nx lim o S with
    | some (S', nx') => execOps E call callH lim ops rest S' nx'
    | none => none

def footV (h : List Root) (v : V) : List Nat := reach h 8 v.ids
def ptrFoot : V → List Nat
  | .w (.one (.pt (.ptr n _ _))) => [n]
  | _ => []
def tmpOf (tmps : List V) : Operand → V
  | .tmp t => tmps.getD t .dead
  | _ => .dead
inductive Looks where
  | none | load | deep
def looks : Op → Looks
  | .move _ | .assign _ | .pick .. | .alloc _ | .box .. | .build .. | .binOp .. | .unOp .. | .makeFunc .. | .makeSlice .. | .fieldAddr .. | .field .. | .index .. | .nilCheck _ | .extract .. => .none
  | .load .. => .load
  | _ => .deep
def foot (S : St) (o : Oper) : List Nat := match looks o.op with
  | .none => []
  | .load => o.op.operands.toList.flatMap fun x => ptrFoot (tmpOf S.tmps x)
  | .deep => o.op.operands.toList.flatMap fun x => footV S.heap (tmpOf S.tmps x)
def slotsOf (o : Oper) : List Tmp := o.op.operands.toList.filterMap fun | .tmp t => some t | _ => none
def namesOf (ops : Array Oper) (o : Oper) : List Tmp := (o.guard.bind fun g => (ops[g.1]?).bind (·.dst)).toList ++ o.dst.toList ++ slotsOf o
structure Piece where
  o : Oper
  i : Nat
  b : Nat
  loud : Bool
  ft : List Nat
def beforeOf (done : List Piece) : List Edge → Option Nat
  | [] => some 0
  | e :: es => match beforeOf done es with
    | some s => if Region.binds .any e then match done.find? (fun d => d.i == e.on) with
        | some d => some (s ||| 2 ^ e.on ||| d.b)
        | none => none else some s
    | none => none
def apart (ops : Array Oper) (x y : Piece) : Bool :=
  (!x.loud && !y.loud || x.ft.all fun n => !y.ft.contains n) &&
    (match x.o.dst with | some t => !(namesOf ops y.o).contains t | none => true) && (match y.o.dst with | some t => !(namesOf ops x.o).contains t | none => true)
def zone : Nat := 64
def maskT (names : List Tmp) : List V → Nat → List V
  | [], _ => []
  | v :: vs, k => (if names.contains k then v else .dead) :: maskT names vs (k + 1)
def trim : List Root → List Root
  | [] => []
  | r :: h => match r, trim h with
    | .dead, [] => []
    | r, t => r :: t
def actOf (E : Env) (call : CallF) (callH : CallH) (ops : Array Oper) (base : Nat) (x : Piece) (S : St) : Option St :=
  match wantedV ops S.tmps x.o with
  | some false => some { S with tmps := setTmp S.tmps x.o.dst (.tup []) }
  | some true =>
    if x.loud then
      let T := maskT (slotsOf x.o) S.tmps 0
      let hs := trim (sub S.heap 0 x.ft)
      let start := base + zone * x.i
      if closedIn hs x.ft && (x.o.op.operands.toList.all fun y => (tmpOf S.tmps y).ids.all x.ft.contains) && x.ft.all (fun n => n < start || start + zone ≤ n) then
        match evL E callH T hs start (start + zone) x.o.op with
        | some (v, h', next) => if next ≤ start + zone then some { tmps := setTmp S.tmps x.o.dst v, heap := merge (fun n => x.ft.contains n || (start ≤ n && n < next)) S.heap 0 h' } else none
        | none => none
      else none
    else match evQ E call S.tmps S.heap (base + zone * x.i) x.o.type x.o.op with
      | some (v, new) => if new.length ≤ zone then some { tmps := setTmp S.tmps x.o.dst v, heap := puts S.heap (base + zone * x.i) new } else none
      | none => none
  | none => none
def itemOf (E : Env) (S : St) (done : List Piece) (o : Oper) (i : Nat) : Option Piece :=
  (beforeOf done o.after.toList).map fun b => { o := o, i := i, b := b, loud := loud E S.tmps o.op, ft := foot S o }
def execDrawn (E : Env) (call : CallF) (callH : CallH) (ops : Array Oper) (base : Nat) : List (Oper × Nat) → List Piece → St → Option St
  | [], _, S => some S
  | (o, i) :: rest, done, S => match itemOf E S done o i with
    | some y =>
      if (done.all fun x => y.b.testBit x.i || apart ops x y) && (y.ft.all fun n => n < base || y.b.testBit ((n - base) / zone)) then
        match actOf E call callH ops base y S with
        | some S' => execDrawn E call callH ops base rest (y :: done) S'
        | none => none
      else none
    | none => none
def execRegion (E : Env) (call : CallF) (callH : CallH) (lim : Nat) (ops : Array Oper) (draw : Bool) (S : St) (nx : Nat) : Option (St × Nat) :=
  if draw then
    if nx + zone * ops.size ≤ lim then (execDrawn E call callH ops nx ops.toList.zipIdx [] S).map (·, nx + zone * ops.size) else none
  else execOps E call callH lim ops ops.toList S nx

inductive Ex where
  | normal
  | exit (id : Nat)
  | ret
  deriving DecidableEq, Inhabited

def execC (E : Env) (call : CallF) (callH : CallH) (lim : Nat) : Nat → Code → St → Nat → Option (Ex × St × Nat)
  | 0, _, _, _ => none
  | n + 1, c, S, nx => match c with
    | .skip => some (.normal, S, nx)
    | .region _ ops draw => (execRegion E call callH lim ops draw S nx).map (.normal, ·)
    | .seq a b => match execC E call callH lim n a S nx with
      | some (.normal, S', nx') => execC E call callH lim n b S' nx'
      | r => r
    | .cond x a b => match (opd E S.tmps 0 x).bind boolOf? with
      | some true => execC E call callH lim n a S nx
      | some false => execC E call callH lim n b S nx
      | none => none
    | .block id body => match execC E call callH lim n body S nx with
      | some (.exit k, S') => if k = id then some (.normal, S') else some (.exit k, S')
      | r => r
    | .loop body => match execC E call callH lim n body S nx with
      | some (.normal, S', nx') => execC E call callH lim n (.loop body) S' nx'
      | r => r
    | .exit id => some (.exit id, S, nx)
    | .ret => some (.ret, S, nx)
    | _ => none

def resultOf (E : Env) (S : St) : ResultVar → Option W
  | .tmp t => (S.tmps[t]?).bind V.w?
  | .cell a t => match E.ty t, (S.tmps[a]?).bind ptrOf with
    | some i, some p => match cellsAt S.heap p with
      | some cs => (asType i cs 0).bind V.w?
      | none => none
    | _, _ => none
def enter (E : Env) (call : CallF) (callH : CallH) (n : Nat) : CallH := fun f start lim h ws =>
  match E.fn f with
  | some fn => match fn.body with
    | some code =>
      if ws.length ≤ fn.ntmps then
        match execC E call callH lim n code { tmps := ws.map V.w ++ List.replicate (fn.ntmps - ws.length) (.tup []), heap := h } start with
        | some (.exit _, _, _) => none
        | some (_, S, next) => match mapO (resultOf E S) fn.results.toList with
          | some [x] => some (.w x, S.heap, next)
          | some xs => some (.tup xs, S.heap, next)
          | none => none
        | none => none
      else none
    | none => none
  | none => none
def most : Nat := 2 ^ 60
def pureOf (E : Env) (callH : CallH) : CallF := fun f args =>
  match E.given f with
  | some g => g args
  | none => match takeWs 0 args with
    | (ws, []) => if ws.all (fun w => w.ids.isEmpty) then match callH f 0 most [] ws with
      | some (v, h, _) => giveV h v
      | none => none else none
    | _ => none
def runs (E : Env) : Nat → CallF × CallH
  | 0 => (fun _ _ => none, fun _ _ _ _ _ => none)
  | n + 1 => (pureOf E (enter E (runs E n).1 (runs E n).2 n), enter E (runs E n).1 (runs E n).2 n)
def run (E : Env) (n : Nat) : CallF := (runs E n).1

end Go.Proofs.YtfokmnafgabdiaaGreatDoor.Eng
namespace Go.Proofs.YtfokmnafgabdiaaGreatDoor.Eng
open Go Go.RowKit
set_option linter.unusedVariables false
set_option linter.unusedSimpArgs false

inductive All2 {α β : Type} (R : α → β → Prop) : List α → List β → Prop
  | nil : All2 R [] []
  | cons {x u xs us} : R x u → All2 R xs us → All2 R (x :: xs) (u :: us)

theorem All2.length {α β : Type} {R : α → β → Prop} {xs : List α} {us : List β} (h : All2 R xs us) : us.length = xs.length := by
  induction h with
  | nil => rfl
  | cons _ _ ih => simp [ih]
theorem All2.get {α β : Type} {R : α → β → Prop} {xs : List α} {us : List β} (h : All2 R xs us) : ∀ {j : Nat} {x : α}, xs[j]? = some x → ∃ u, us[j]? = some u ∧ R x u := by
  induction h with
  | nil => intro j x hx; simp at hx
  | cons hr _ ih =>
    intro j x hx
    cases j with
    | zero => simp at hx; subst hx; exact ⟨_, by simp, hr⟩
    | succ j => simp at hx; obtain ⟨u, hu, r⟩ := ih hx; exact ⟨u, by simpa using hu, r⟩
theorem All2.of_get {α β : Type} {R : α → β → Prop} : ∀ {xs : List α} {us : List β}, us.length = xs.length → (∀ (j : Nat) (x : α), xs[j]? = some x → ∃ u, us[j]? = some u ∧ R x u) → All2 R xs us
  | [], [], _, _ => .nil
  | [], _ :: _, hl, _ => by simp at hl
  | _ :: _, [], hl, _ => by simp at hl
  | x :: xs, u :: us, hl, h => by
    obtain ⟨v, hv, r⟩ := h 0 x (by simp)
    simp at hv; subst hv
    exact .cons r (All2.of_get (by simpa using hl) fun j y hy => by simpa using h (j + 1) y (by simpa using hy))
theorem All2.mono {α β : Type} {R R' : α → β → Prop} {xs : List α} {us : List β} (h : All2 R xs us) (hr : ∀ x u, x ∈ xs → R x u → R' x u) : All2 R' xs us := by
  induction h with
  | nil => exact .nil
  | cons r _ ih => exact .cons (hr _ _ (by simp) r) (ih fun x u hx => hr x u (by simp [hx]))
theorem All2.append {α β : Type} {R : α → β → Prop} {xs ys : List α} {us vs : List β} (h : All2 R xs us) (k : All2 R ys vs) : All2 R (xs ++ ys) (us ++ vs) := by
  induction h with
  | nil => exact k
  | cons r _ ih => exact .cons r ih
theorem All2.drop {α β : Type} {R : α → β → Prop} {xs : List α} {us : List β} (h : All2 R xs us) (n : Nat) : All2 R (xs.drop n) (us.drop n) := by
  induction h generalizing n with
  | nil => simp; exact .nil
  | cons r h ih => cases n with
    | zero => exact .cons r h
    | succ n => exact ih n
theorem All2.take {α β : Type} {R : α → β → Prop} {xs : List α} {us : List β} (h : All2 R xs us) (n : Nat) : All2 R (xs.take n) (us.take n) := by
  induction h generalizing n with
  | nil => simp; exact .nil
  | cons r h ih => cases n with
    | zero => exact .nil
    | succ n => exact .cons r (ih n)
theorem All2.set {α β : Type} {R : α → β → Prop} {xs : List α} {us : List β} (h : All2 R xs us) {x : α} {u : β} (r : R x u) (n : Nat) : All2 R (xs.set n x) (us.set n u) := by
  induction h generalizing n with
  | nil => exact .nil
  | cons r' h ih => cases n with
    | zero => exact .cons r h
    | succ n => exact .cons r' (ih n)
theorem All2.map {α β γ : Type} {R : α → β → Prop} {R' : γ → β → Prop} {f : α → γ} {xs : List α} {us : List β} (h : All2 R xs us) (hr : ∀ x u, x ∈ xs → R x u → R' (f x) u) : All2 R' (xs.map f) us := by
  induction h with
  | nil => exact .nil
  | cons r _ ih => exact .cons (hr _ _ (by simp) r) (ih fun x u hx => hr x u (by simp [hx]))
theorem mapO_nil {α β : Type} (f : α → Option β) : mapO f [] = some [] := rfl
theorem mapO_cons {α β : Type} {f : α → Option β} {x : α} {xs : List α} {r : List β} (h : mapO f (x :: xs) = some r) : ∃ y ys, f x = some y ∧ mapO f xs = some ys ∧ r = y :: ys := by
  unfold mapO at h
  cases hx : f x with
  | none => simp [hx] at h
  | some y => cases hs : mapO f xs with
    | none => simp [hx, hs] at h
    | some ys => simp [hx, hs] at h; exact ⟨y, ys, rfl, rfl, h.symm⟩
theorem All2.mapO {α β γ : Type} {R : α → β → Prop} {R' : γ → β → Prop} {f : α → Option γ} {xs : List α} {us : List β} (h : All2 R xs us) : ∀ {ys : List γ}, Eng.mapO f xs = some ys → (∀ x y u, x ∈ xs → f x = some y → R x u → R' y u) → All2 R' ys us := by
  induction h with
  | nil => intro ys hy _; simp [mapO_nil] at hy; subst hy; exact .nil
  | cons r _ ih =>
    intro ys hy hr
    obtain ⟨y, zs, h1, h2, rfl⟩ := mapO_cons hy
    exact .cons (hr _ _ _ (by simp) h1 r) (ih h2 fun x y u hx => hr x y u (by simp [hx]))
theorem mapO_length {α β : Type} {f : α → Option β} : ∀ {xs : List α} {ys : List β}, mapO f xs = some ys → ys.length = xs.length
  | [], ys, h => by simp [mapO_nil] at h; subst h; rfl
  | x :: xs, ys, h => by obtain ⟨y, zs, _, h2, rfl⟩ := mapO_cons h; simp [mapO_length h2]
theorem mapO_get {α β : Type} {f : α → Option β} : ∀ {xs : List α} {ys : List β}, mapO f xs = some ys → ∀ {j : Nat} {y : β}, ys[j]? = some y → ∃ x, xs[j]? = some x ∧ f x = some y
  | [], ys, h, j, y, hy => by simp [mapO_nil] at h; subst h; simp at hy
  | x :: xs, ys, h, j, y, hy => by
    obtain ⟨z, zs, h1, h2, rfl⟩ := mapO_cons h
    cases j with
    | zero => simp at hy; subst hy; exact ⟨x, by simp, h1⟩
    | succ j => simp at hy; obtain ⟨x', hx', h'⟩ := mapO_get h2 hy; exact ⟨x', by simpa using hx', h'⟩

theorem rget_nil (n : Nat) : rget [] n = .dead := by simp [rget]
theorem rget_put (h : List Root) (n m : Nat) (r : Root) : rget (put h n r) m = if m = n then r else rget h m := by
  induction h generalizing n m with
  | nil =>
    induction n generalizing m with
    | zero => cases m <;> simp [put, rget]
    | succ n ih => cases m with
      | zero => simp [put, rget]
      | succ m => have := ih m; simp only [put, rget, List.getD_cons_succ] at this ⊢; simp only [this]; simp
  | cons h0 hs ih =>
    cases n with
    | zero => cases m <;> simp [put, rget]
    | succ n => cases m with
      | zero => simp [put, rget]
      | succ m => have := ih n m; simp only [put, rget, List.getD_cons_succ] at this ⊢; rw [this]; simp
theorem rget_put_self (h : List Root) (n : Nat) (r : Root) : rget (put h n r) n = r := by simp [rget_put]
theorem rget_put_ne (h : List Root) {n m : Nat} (r : Root) (hne : m ≠ n) : rget (put h n r) m = rget h m := by simp [rget_put, hne]
theorem rget_ge {h : List Root} {n : Nat} (hn : h.length ≤ n) : rget h n = .dead := by simp [rget, List.getD, List.getElem?_eq_none hn]
theorem rget_puts (rs : List Root) : ∀ (h : List Root) (n m : Nat), rget (puts h n rs) m = if n ≤ m ∧ m < n + rs.length then rget rs (m - n) else rget h m := by
  induction rs with
  | nil => intro h n m; simp only [puts, List.length_nil]; rw [if_neg (by omega)]
  | cons r rs ih =>
    intro h n m
    simp only [puts, ih, rget_put, List.length_cons]
    by_cases h1 : n + 1 ≤ m ∧ m < n + 1 + rs.length
    · rw [if_pos h1, if_pos (by omega)]
      obtain ⟨k, hk⟩ : ∃ k, m - n = k + 1 := ⟨m - n - 1, by omega⟩
      rw [hk, show m - (n + 1) = k from by omega]; simp [rget]
    · rw [if_neg h1]
      by_cases h2 : m = n
      · subst h2; rw [if_pos rfl, if_pos (by omega)]; simp [rget]
      · rw [if_neg h2, if_neg (by omega)]

def RoN (w : World) (A : Nat → Prop) : Nat → C → Value → Prop
  | _, .any, u => u.oneCell' = true
  | _, .err, u => ∃ te ve, u = .iface te ve
  | _, .lit v, u => u = v ∧ v.oneCell' = true
  | 0, .ro _ _, _ => False
  | n + 1, .ro sz rows, u => ∃ a cap, u = .slice a rows.length cap ∧ rows.length ≤ cap ∧ (∀ r ∈ rows, r.length = sz) ∧
      ∀ i r j c, rows[i]? = some r → r[j]? = some c → ∃ b o v, a = some ⟨b, o, none⟩ ∧ A b ∧ w.cell? ⟨b, o + i * sz + j, none⟩ = some v ∧ RoN w A n c v
def RC (w : World) (A : Nat → Prop) (c : C) (u : Value) : Prop := ∃ n, RoN w A n c u

theorem RoN.up {w : World} {A : Nat → Prop} : ∀ {n : Nat} {c : C} {u : Value}, RoN w A n c u → RoN w A (n + 1) c u
  | 0, .any, u, h => h
  | 0, .err, u, h => h
  | n + 1, .err, u, h => h
  | 0, .lit v, u, h => h
  | 0, .ro _ _, u, h => h.elim
  | n + 1, .any, u, h => h
  | n + 1, .lit v, u, h => h
  | n + 1, .ro sz rows, u, h => by
    obtain ⟨a, cap, h1, h2, h3, h4⟩ := h
    refine ⟨a, cap, h1, h2, h3, fun i r j c hi hj => ?_⟩
    obtain ⟨b, o, v, e, ha, hc, hr⟩ := h4 i r j c hi hj
    exact ⟨b, o, v, e, ha, hc, RoN.up hr⟩
theorem RoN.ups {w : World} {A : Nat → Prop} {n : Nat} {c : C} {u : Value} (h : RoN w A n c u) : ∀ {m : Nat}, n ≤ m → RoN w A m c u := by
  intro m hm
  induction m with
  | zero => obtain rfl : n = 0 := by omega
            exact h
  | succ m ih => rcases Nat.lt_or_ge m n with h' | h'
                 · obtain rfl : n = m + 1 := by omega
                   exact h
                 · exact (ih h').up
theorem RoN.mono {w w' : World} {A A' : Nat → Prop} (hw : ∀ b, A b → w'.heap[b]? = w.heap[b]?) (hA : ∀ b, A b → A' b) : ∀ {n : Nat} {c : C} {u : Value}, RoN w A n c u → RoN w' A' n c u
  | 0, .any, u, h => h
  | 0, .err, u, h => h
  | n + 1, .err, u, h => h
  | 0, .lit v, u, h => h
  | 0, .ro _ _, u, h => h.elim
  | n + 1, .any, u, h => h
  | n + 1, .lit v, u, h => h
  | n + 1, .ro sz rows, u, h => by
    obtain ⟨a, cap, h1, h2, h3, h4⟩ := h
    refine ⟨a, cap, h1, h2, h3, fun i r j c hi hj => ?_⟩
    obtain ⟨b, o, v, e, ha, hc, hr⟩ := h4 i r j c hi hj
    exact ⟨b, o, v, e, hA b ha, by rw [← hc]; exact World.cell?_of_block (w := w) (hw b ha), RoN.mono hw hA hr⟩
theorem RC.mono {w w' : World} {A A' : Nat → Prop} (hw : ∀ b, A b → w'.heap[b]? = w.heap[b]?) (hA : ∀ b, A b → A' b) {c : C} {u : Value} (h : RC w A c u) : RC w' A' c u := by
  obtain ⟨n, h⟩ := h; exact ⟨n, h.mono hw hA⟩
theorem RoN.one {w : World} {A : Nat → Prop} : ∀ {n : Nat} {c : C} {u : Value}, RoN w A n c u → u.oneCell' = true
  | 0, .any, u, h => h
  | 0, .err, u, h => by obtain ⟨te, ve, rfl⟩ := h; rfl
  | n + 1, .err, u, h => by obtain ⟨te, ve, rfl⟩ := h; rfl
  | 0, .lit v, u, h => by obtain ⟨rfl, h⟩ := h; exact h
  | 0, .ro _ _, u, h => h.elim
  | n + 1, .any, u, h => h
  | n + 1, .lit v, u, h => by obtain ⟨rfl, h⟩ := h; exact h
  | n + 1, .ro sz rows, u, h => by obtain ⟨a, cap, rfl, _⟩ := h; rfl
theorem RC.one {w : World} {A : Nat → Prop} {c : C} {u : Value} (h : RC w A c u) : u.oneCell' = true := h.choose_spec.one
theorem RC.any {w : World} {A : Nat → Prop} {u : Value} (h : u.oneCell' = true) : RC w A .any u := ⟨0, h⟩
theorem RC.err_iff {w : World} {A : Nat → Prop} {u : Value} : RC w A .err u ↔ ∃ te ve, u = .iface te ve := by
  constructor
  · rintro ⟨n, h⟩; cases n <;> exact h
  · intro h; exact ⟨0, h⟩
theorem RC.lit_iff {w : World} {A : Nat → Prop} {v u : Value} : RC w A (.lit v) u ↔ u = v ∧ v.oneCell' = true := by
  constructor
  · rintro ⟨n, h⟩; cases n <;> exact h
  · intro h; exact ⟨0, h⟩
theorem RC.ro {w : World} {A : Nat → Prop} {sz : Nat} {rows : List (List C)} {u : Value} (h : RC w A (.ro sz rows) u) :
    ∃ a cap, u = .slice a rows.length cap ∧ rows.length ≤ cap ∧ (∀ r ∈ rows, r.length = sz) ∧
      ∀ i r j c, rows[i]? = some r → r[j]? = some c → ∃ b o v, a = some ⟨b, o, none⟩ ∧ A b ∧ w.cell? ⟨b, o + i * sz + j, none⟩ = some v ∧ RC w A c v := by
  obtain ⟨n, h⟩ := h
  cases n with
  | zero => exact h.elim
  | succ n =>
    obtain ⟨a, cap, h1, h2, h3, h4⟩ := h
    refine ⟨a, cap, h1, h2, h3, fun i r j c hi hj => ?_⟩
    obtain ⟨b, o, v, e, ha, hc, hr⟩ := h4 i r j c hi hj
    exact ⟨b, o, v, e, ha, hc, n, hr⟩
theorem RC.bound {w : World} {A : Nat → Prop} (rows : List (List C)) (f : Nat → Nat → Value → Prop) (h : ∀ i r j c, rows[i]? = some r → r[j]? = some c → ∃ v, f i j v ∧ RC w A c v) :
    ∃ n, ∀ i r j c, rows[i]? = some r → r[j]? = some c → ∃ v, f i j v ∧ RoN w A n c v := by
  have key : ∀ (l : List (List C)) (k : Nat), (∀ i r j c, l[i]? = some r → r[j]? = some c → ∃ v, f (k + i) j v ∧ RC w A c v) → ∃ n, ∀ i r j c, l[i]? = some r → r[j]? = some c → ∃ v, f (k + i) j v ∧ RoN w A n c v := by
    intro l
    induction l with
    | nil => intro k _; exact ⟨0, fun i r j c hi => by simp at hi⟩
    | cons r0 l ih =>
      intro k hl
      have inner : ∀ (r : List C) (m : Nat), (∀ j c, r[j]? = some c → ∃ v, f k (m + j) v ∧ RC w A c v) → ∃ n, ∀ j c, r[j]? = some c → ∃ v, f k (m + j) v ∧ RoN w A n c v := by
        intro r
        induction r with
        | nil => intro m _; exact ⟨0, fun j c hj => by simp at hj⟩
        | cons c0 r ihr =>
          intro m hr
          obtain ⟨v0, hf0, n0, h0⟩ := hr 0 c0 (by simp)
          obtain ⟨n1, h1⟩ := ihr (m + 1) (fun j c hj => by have := hr (j + 1) c (by simpa using hj); rwa [show m + (j + 1) = m + 1 + j from by omega] at this)
          refine ⟨max n0 n1, fun j c hj => ?_⟩
          cases j with
          | zero => simp at hj; subst hj; exact ⟨v0, hf0, h0.ups (Nat.le_max_left _ _)⟩
          | succ j => obtain ⟨v, hv, hh⟩ := h1 j c (by simpa using hj); exact ⟨v, by rwa [show m + (j + 1) = m + 1 + j from by omega], hh.ups (Nat.le_max_right _ _)⟩
      obtain ⟨n0, h0⟩ := inner r0 0 (fun j c hj => by have := hl 0 r0 j c (by simp) hj; simpa using this)
      obtain ⟨n1, h1⟩ := ih (k + 1) (fun i r j c hi hj => by have := hl (i + 1) r j c (by simpa using hi) hj; rwa [show k + (i + 1) = k + 1 + i from by omega] at this)
      refine ⟨max n0 n1, fun i r j c hi hj => ?_⟩
      cases i with
      | zero => simp at hi; subst hi; obtain ⟨v, hv, hh⟩ := h0 j c hj; exact ⟨v, by simpa using hv, hh.ups (Nat.le_max_left _ _)⟩
      | succ i => obtain ⟨v, hv, hh⟩ := h1 i r j c (by simpa using hi) hj; exact ⟨v, by rwa [show k + (i + 1) = k + 1 + i from by omega], hh.ups (Nat.le_max_right _ _)⟩
  obtain ⟨n, hn⟩ := key rows 0 (fun i r j c hi hj => by simpa using h i r j c hi hj)
  exact ⟨n, fun i r j c hi hj => by simpa using hn i r j c hi hj⟩
theorem RC.mk_ro {w : World} {A : Nat → Prop} {sz : Nat} {rows : List (List C)} {a : Option Addr} {cap : Nat} (hcap : rows.length ≤ cap) (hsz : ∀ r ∈ rows, r.length = sz)
    (h : ∀ i r j c, rows[i]? = some r → r[j]? = some c → ∃ b o v, a = some ⟨b, o, none⟩ ∧ A b ∧ w.cell? ⟨b, o + i * sz + j, none⟩ = some v ∧ RC w A c v) : RC w A (.ro sz rows) (.slice a rows.length cap) := by
  obtain ⟨n, hn⟩ := RC.bound (w := w) (A := A) rows (fun i j v => ∃ b o, a = some ⟨b, o, none⟩ ∧ A b ∧ w.cell? ⟨b, o + i * sz + j, none⟩ = some v)
    (fun i r j c hi hj => by obtain ⟨b, o, v, h1, h2, h3, h4⟩ := h i r j c hi hj; exact ⟨v, ⟨b, o, h1, h2, h3⟩, h4⟩)
  refine ⟨n + 1, a, cap, rfl, hcap, hsz, fun i r j c hi hj => ?_⟩
  obtain ⟨v, ⟨b, o, h1, h2, h3⟩, h4⟩ := hn i r j c hi hj
  exact ⟨b, o, v, h1, h2, h3, h4⟩

end Go.Proofs.YtfokmnafgabdiaaGreatDoor.Eng
namespace Go.Proofs.YtfokmnafgabdiaaGreatDoor.Eng
open Go Go.RowKit
set_option linter.unusedVariables false
set_option linter.unusedSimpArgs false

abbrev Sig := Nat → Option (Nat × Nat)
def Root.own : Root → Bool
  | .var _ => true
  | .rows _ _ => true
  | _ => false

def Room (w : World) (b m : Nat) : Prop := ∃ arr T f, w.heap[b]? = some (.cells arr T f) ∧ m ≤ arr.size
def Wide (w w' : World) (b : Nat) : Prop := ∀ m, Room w b m → Room w' b m

def RRef (w : World) (σ : Sig) (h : List Root) (n off len : Nat) (cap : Option Nat) (u : Value) : Prop :=
  u.oneCell' = true ∧ ∀ sz rs, (rget h n = .rows sz rs ∨ rget h n = .fro sz rs) →
    off + len ≤ rs.length ∧ ∃ a k, u = .slice a len k ∧ len ≤ k ∧ (∀ c, cap = some c → k = c) ∧
      (k = 0 ∨ ∃ b o, σ n = some (b, o) ∧ a = some ⟨b, o + off * sz, none⟩ ∧ (rget h n = .rows sz rs → Room w b (o + off * sz + k * sz)))
def RPt (w : World) (A : Nat → Prop) (σ : Sig) (h : List Root) : Pt → Value → Prop
  | .ptr n i j, u => (∃ b o, u = .pointer (some ⟨b, o, none⟩)) ∧ (∀ cells, rget h n = .var cells → ∃ b o, σ n = some (b, o) ∧ u = .pointer (some ⟨b, o + j, none⟩)) ∧
      (∀ sz rs, (rget h n = .rows sz rs ∨ rget h n = .fro sz rs) → ∃ b o, σ n = some (b, o) ∧ u = .pointer (some ⟨b, o + i * sz + j, none⟩))
  | .rp cells, u => ∃ b o, u = .pointer (some ⟨b, o, none⟩) ∧ ∀ j c, cells[j]? = some c → A b ∧ ∃ v, w.cell? ⟨b, o + j, none⟩ = some v ∧ RC w A c v
def RV1 (w : World) (A : Nat → Prop) (σ : Sig) (h : List Root) : V1 → Value → Prop
  | .c x, u => RC w A x u
  | .nil _, u => u = .slice none 0 0
  | .ref n off len cap, u => RRef w σ h n off len cap u
  | .pt p, u => RPt w A σ h p u
  | .clo g caps, u => ∃ us, u = .func (.func g) #[] us ∧ All2 (RPt w A σ h) caps us.toList
def RW (w : World) (A : Nat → Prop) (σ : Sig) (h : List Root) : W → Value → Prop
  | .one x, u => RV1 w A σ h x u
  | .agg xs, u => ∃ us, u = .agg us ∧ All2 (RV1 w A σ h) xs us.toList
def RV (w : World) (A : Nat → Prop) (σ : Sig) (h : List Root) : V → Value → Prop
  | .w x, u => RW w A σ h x u
  | .tup xs, u => ∃ us, u = .tuple us ∧ All2 (RW w A σ h) xs us.toList
  | .dead, _ => True

def RRoot (w : World) (A : Nat → Prop) (σ : Sig) (h : List Root) (n : Nat) : Root → Prop
  | .dead => True
  | .var cells => ∃ b o arr T, σ n = some (b, o) ∧ w.heap[b]? = some (.cells arr T (0, 0)) ∧ o + cells.length ≤ arr.size ∧
      ∀ j x, cells[j]? = some x → ∃ v, arr[o + j]? = some v ∧ RV1 w A σ h x v
  | .rows sz rs => (∀ r ∈ rs, r.length = sz) ∧ ((σ n = none ∧ rs = []) ∨ ∃ b o arr T, σ n = some (b, o) ∧ w.heap[b]? = some (.cells arr T (0, 0)) ∧ o + rs.length * sz ≤ arr.size ∧
      ∀ i r j c, rs[i]? = some r → r[j]? = some c → ∃ v, arr[o + i * sz + j]? = some v ∧ RC w A c v)
  | .fro sz rs => (∀ r ∈ rs, r.length = sz) ∧ ((σ n = none ∧ rs = []) ∨ ∃ b o, σ n = some (b, o) ∧
      ∀ i r j c, rs[i]? = some r → r[j]? = some c → A b ∧ ∃ v, w.cell? ⟨b, o + i * sz + j, none⟩ = some v ∧ RC w A c v)
structure RHeap (w : World) (A : Nat → Prop) (σ : Sig) (h : List Root) : Prop where
  root : ∀ n, RRoot w A σ h n (rget h n)
  inj : ∀ n m b o o', (rget h n).own = true → (rget h m).own = true → σ n = some (b, o) → σ m = some (b, o') → n = m
  off : ∀ n b o, (rget h n).own = true → σ n = some (b, o) → ¬ A b
  lt : ∀ b, A b → b < w.heap.size

def Compat (r r' : Root) : Prop := match r' with
  | .dead => True
  | .var _ => ∃ c, r = .var c
  | .rows sz rs' => ∃ rs, r = .rows sz rs ∧ rs.length = rs'.length
  | .fro sz rs' => ∃ rs, (r = .rows sz rs ∨ r = .fro sz rs) ∧ rs.length = rs'.length
theorem Compat.refl (r : Root) : Compat r r := by
  cases r with
  | dead => trivial
  | var c => exact ⟨c, rfl⟩
  | rows sz rs => exact ⟨rs, rfl, rfl⟩
  | fro sz rs => exact ⟨rs, .inr rfl, rfl⟩

theorem Compat.trans {r r' r'' : Root} (h : Compat r r') (g : Compat r' r'') : Compat r r'' := by
  cases r'' with
  | dead => trivial
  | var c => obtain ⟨c', rfl⟩ := g; exact h
  | rows sz rs => obtain ⟨rs', rfl, e⟩ := g; obtain ⟨rs0, e1, e2⟩ := h; exact ⟨rs0, e1, e2.trans e⟩
  | fro sz rs =>
    obtain ⟨rs', e | e, e2⟩ := g
    · subst e; obtain ⟨rs0, e1, e3⟩ := h; exact ⟨rs0, .inl e1, e3.trans e2⟩
    · subst e; obtain ⟨rs0, e1, e3⟩ := h; exact ⟨rs0, e1, e3.trans e2⟩
structure Stays (w w' : World) (σ σ' : Sig) (h h' : List Root) (n : Nat) : Prop where
  sig : σ' n = σ n
  compat : Compat (rget h n) (rget h' n)
  wide : ∀ b o, (rget h' n).own = true → σ n = some (b, o) → Wide w w' b

section
variable {w w' : World} {A A' : Nat → Prop} {σ σ' : Sig} {h h' : List Root}

theorem RRef.stays {n off len : Nat} {cap : Option Nat} {u : Value} (hs : Stays w w' σ σ' h h' n) (r : RRef w σ h n off len cap u) : RRef w' σ' h' n off len cap u := by
  refine ⟨r.1, fun sz rs' hr => ?_⟩
  have hc := hs.compat
  have key : ∃ rs, (rget h n = .rows sz rs ∨ rget h n = .fro sz rs) ∧ rs.length = rs'.length ∧ (rget h' n = .rows sz rs' → rget h n = .rows sz rs) := by
    rcases hr with hr | hr
    · rw [hr] at hc; obtain ⟨rs, e, hl⟩ := hc; exact ⟨rs, .inl e, hl, fun _ => e⟩
    · rw [hr] at hc; obtain ⟨rs, e, hl⟩ := hc; exact ⟨rs, e, hl, fun h => by rw [hr] at h; cases h⟩
  obtain ⟨rs, e, hl, hrow⟩ := key
  obtain ⟨h1, a, k, h2, h3, h4, h5⟩ := r.2 sz rs e
  refine ⟨by omega, a, k, h2, h3, h4, ?_⟩
  rcases h5 with e3 | ⟨b, o, e1, e2, e3⟩
  · exact .inl e3
  · refine .inr ⟨b, o, hs.sig.trans e1, e2, fun hn => ?_⟩
    exact hs.wide b o (by rw [hn]; rfl) e1 _ (e3 (hrow hn))
theorem RPt.stays {p : Pt} {u : Value} (hw : ∀ b, A b → w'.heap[b]? = w.heap[b]?) (hA : ∀ b, A b → A' b) (hs : ∀ n ∈ p.ids, Stays w w' σ σ' h h' n) (r : RPt w A σ h p u) : RPt w' A' σ' h' p u := by
  cases p with
  | ptr n i j =>
    have hs := hs n (by simp [Pt.ids])
    obtain ⟨h1, h2, h3⟩ := r
    refine ⟨h1, fun cells hr => ?_, fun sz rs' hr => ?_⟩
    · have hc := hs.compat
      rw [hr] at hc; obtain ⟨c, e⟩ := hc
      obtain ⟨b, o, e1, e2⟩ := h2 c e
      exact ⟨b, o, hs.sig.trans e1, e2⟩
    · have hc := hs.compat
      have key : ∃ rs, (rget h n = .rows sz rs ∨ rget h n = .fro sz rs) := by
        rcases hr with hr | hr
        · rw [hr] at hc; obtain ⟨rs, e, hl⟩ := hc; exact ⟨rs, .inl e⟩
        · rw [hr] at hc; obtain ⟨rs, e, hl⟩ := hc; exact ⟨rs, e⟩
      obtain ⟨rs, e⟩ := key
      obtain ⟨b, o, e1, e2⟩ := h3 sz rs e
      exact ⟨b, o, hs.sig.trans e1, e2⟩
  | rp cells =>
    obtain ⟨b, o, e, hc⟩ := r
    refine ⟨b, o, e, fun j c hj => ?_⟩
    obtain ⟨ha, v, hv, hr⟩ := hc j c hj
    exact ⟨hA b ha, v, by rw [← hv]; exact World.cell?_of_block (w := w) (hw b ha), hr.mono hw hA⟩
theorem RV1.stays {x : V1} {u : Value} (hw : ∀ b, A b → w'.heap[b]? = w.heap[b]?) (hA : ∀ b, A b → A' b) (hs : ∀ n ∈ x.ids, Stays w w' σ σ' h h' n) (r : RV1 w A σ h x u) : RV1 w' A' σ' h' x u := by
  cases x with
  | c x => exact RC.mono hw hA r
  | nil sz => exact r
  | ref n off len cap => exact RRef.stays (hs n (by simp [V1.ids])) r
  | pt p => exact RPt.stays hw hA hs r
  | clo g caps =>
    obtain ⟨us, e, h2⟩ := r
    exact ⟨us, e, h2.mono fun p v hp r => RPt.stays hw hA (fun n hn => hs n (by simp only [V1.ids, List.mem_flatMap]; exact ⟨p, hp, hn⟩)) r⟩
theorem RW.stays {x : W} {u : Value} (hw : ∀ b, A b → w'.heap[b]? = w.heap[b]?) (hA : ∀ b, A b → A' b) (hs : ∀ n ∈ x.ids, Stays w w' σ σ' h h' n) (r : RW w A σ h x u) : RW w' A' σ' h' x u := by
  cases x with
  | one x => exact RV1.stays hw hA hs r
  | agg xs =>
    obtain ⟨us, e, h2⟩ := r
    exact ⟨us, e, h2.mono fun p v hp r => RV1.stays hw hA (fun n hn => hs n (by simp only [W.ids, List.mem_flatMap]; exact ⟨p, hp, hn⟩)) r⟩
theorem RV.stays {x : V} {u : Value} (hw : ∀ b, A b → w'.heap[b]? = w.heap[b]?) (hA : ∀ b, A b → A' b) (hs : ∀ n ∈ x.ids, Stays w w' σ σ' h h' n) (r : RV w A σ h x u) : RV w' A' σ' h' x u := by
  cases x with
  | w x => exact RW.stays hw hA hs r
  | tup xs =>
    obtain ⟨us, e, h2⟩ := r
    exact ⟨us, e, h2.mono fun p v hp r => RW.stays hw hA (fun n hn => hs n (by simp only [V.ids, List.mem_flatMap]; exact ⟨p, hp, hn⟩)) r⟩
  | dead => trivial
theorem RRoot.stays {n : Nat} {r : Root} (hw : ∀ b, A b → w'.heap[b]? = w.heap[b]?) (hA : ∀ b, A b → A' b) (hsig : σ' n = σ n) (hblk : ∀ b o, r.own = true → σ n = some (b, o) → w'.heap[b]? = w.heap[b]?)
    (hs : ∀ m ∈ r.ids, Stays w w' σ σ' h h' m) (hr : RRoot w A σ h n r) : RRoot w' A' σ' h' n r := by
  cases r with
  | dead => trivial
  | var cells =>
    obtain ⟨b, o, arr, T, e1, e2, e3, e4⟩ := hr
    refine ⟨b, o, arr, T, hsig.trans e1, (hblk b o rfl e1).trans e2, e3, fun j x hx => ?_⟩
    obtain ⟨v, hv, r⟩ := e4 j x hx
    exact ⟨v, hv, r.stays hw hA fun m hm => hs m (by simp only [Root.ids, List.mem_flatMap]; exact ⟨x, List.mem_of_getElem? hx, hm⟩)⟩
  | rows sz rs =>
    refine ⟨hr.1, ?_⟩
    rcases hr.2 with ⟨e1, e2⟩ | ⟨b, o, arr, T, e1, e2, e3, e4⟩
    · exact .inl ⟨hsig.trans e1, e2⟩
    · refine .inr ⟨b, o, arr, T, hsig.trans e1, (hblk b o rfl e1).trans e2, e3, fun i r j c hi hj => ?_⟩
      obtain ⟨v, hv, r⟩ := e4 i r j c hi hj
      exact ⟨v, hv, r.mono hw hA⟩
  | fro sz rs =>
    refine ⟨hr.1, ?_⟩
    rcases hr.2 with ⟨e1, e2⟩ | ⟨b, o, e1, e4⟩
    · exact .inl ⟨hsig.trans e1, e2⟩
    · refine .inr ⟨b, o, hsig.trans e1, fun i r j c hi hj => ?_⟩
      obtain ⟨ha, v, hv, r⟩ := e4 i r j c hi hj
      exact ⟨hA b ha, v, by rw [← hv]; exact World.cell?_of_block (w := w) (hw b ha), r.mono hw hA⟩
end

structure Ext (w0 w : World) (O : Nat → Prop) : Prop where
  os : w.os = w0.os
  tape : w.tape = w0.tape
  output : w.output = w0.output
  size : w0.heap.size ≤ w.heap.size
  block : ∀ k, k < w0.heap.size → ¬ O k → w.heap[k]? = w0.heap[k]?
  wide : ∀ k, Wide w0 w k
theorem Wide.refl (w : World) (b : Nat) : Wide w w b := fun _ h => h
theorem Wide.trans {a b c : World} {k : Nat} (h : Wide a b k) (g : Wide b c k) : Wide a c k := fun m r => g m (h m r)
theorem Ext.refl (w : World) (O : Nat → Prop) : Ext w w O := ⟨rfl, rfl, rfl, Nat.le_refl _, fun _ _ _ => rfl, fun b => Wide.refl w b⟩
theorem Ext.trans {a b c : World} {O : Nat → Prop} (h : Ext a b O) (g : Ext b c fun k => O k ∨ a.heap.size ≤ k) : Ext a c O :=
  ⟨g.os.trans h.os, g.tape.trans h.tape, g.output.trans h.output, Nat.le_trans h.size g.size,
    fun k hk ho => (g.block k (Nat.lt_of_lt_of_le hk h.size) (by intro hh; rcases hh with hh | hh; exact ho hh; omega)).trans (h.block k hk ho), fun k => (h.wide k).trans (g.wide k)⟩
theorem Ext.mono {a b : World} {O O' : Nat → Prop} (h : Ext a b O) (hO : ∀ k, k < a.heap.size → O k → O' k) : Ext a b O' :=
  ⟨h.os, h.tape, h.output, h.size, fun k hk ho => h.block k hk fun hh => ho (hO k hk hh), h.wide⟩
theorem Wide.of_block {w w' : World} {b : Nat} (h : w'.heap[b]? = w.heap[b]?) : Wide w w' b := by
  rintro m ⟨arr, T, f, e, hm⟩; exact ⟨arr, T, f, h.trans e, hm⟩
theorem lt_of_block {w : World} {b : Nat} {x : Obj} (h : w.heap[b]? = some x) : b < w.heap.size := by
  rcases Nat.lt_or_ge b w.heap.size with h' | h'
  · exact h'
  · simp [Array.getElem?_eq_none h'] at h
theorem Ext.drew {w : World} {n : Nat} {O : Nat → Prop} : Ext w { w with drawn := n } O := ⟨rfl, rfl, rfl, Nat.le_refl _, fun _ _ _ => rfl, fun b => Wide.refl w b⟩
theorem heap_alloc_lt (w : World) (o : Obj) {k : Nat} (h : k < w.heap.size) : (w.alloc o).heap[k]? = w.heap[k]? := Below.heap_alloc w o k h
theorem heap_alloc_at (w : World) (o : Obj) : (w.alloc o).heap[w.heap.size]? = some o := by
  show (w.heap.push o)[w.heap.size]? = some o
  simp
theorem Ext.alloc (w : World) (o : Obj) (O : Nat → Prop) : Ext w (w.alloc o) O :=
  ⟨rfl, rfl, rfl, by simp, fun k hk _ => heap_alloc_lt w o hk, fun b => by
    rintro m ⟨arr, T, f, e, hm⟩; exact ⟨arr, T, f, (heap_alloc_lt w o (lt_of_block e)).trans e, hm⟩⟩
theorem heap_setCell_ne (w : World) (a : Addr) (u : Value) {k : Nat} (h : k ≠ a.block) : (w.setCell a u).heap[k]? = w.heap[k]? := Below.heap_setCell w a u k h
theorem heap_setCell_at (w : World) (b o : Nat) (u : Value) {arr : Array Value} {T : TypeId} {f : Nat × Nat} (h : w.heap[b]? = some (.cells arr T f)) :
    (w.setCell ⟨b, o, none⟩ u).heap[b]? = some (.cells (arr.setIfInBounds o u) T f) := by
  simp [World.setCell, Array.getElem?_modify, h]
theorem Ext.setCell (w : World) (b o : Nat) (u : Value) {O : Nat → Prop} (hO : O b) : Ext w (w.setCell ⟨b, o, none⟩ u) O :=
  ⟨rfl, rfl, rfl, by simp, fun k hk ho => heap_setCell_ne w _ u (by rintro rfl; exact ho hO), fun k => by
    rintro m ⟨arr, T, f, e, hm⟩
    by_cases hk : k = b
    · subst hk; exact ⟨_, T, f, heap_setCell_at w k o u e, by simpa using hm⟩
    · exact ⟨arr, T, f, (heap_setCell_ne w ⟨b, o, none⟩ u hk).trans e, hm⟩⟩

end Go.Proofs.YtfokmnafgabdiaaGreatDoor.Eng
namespace Go.Proofs.YtfokmnafgabdiaaGreatDoor.Eng
open Go Go.RowKit
set_option linter.unusedVariables false
set_option linter.unusedSimpArgs false

def gvars : List Nat := [1]
def Gl (w : World) (A : Nat → Prop) : Prop := ∀ g ∈ gvars, A g ∧ g < w.heap.size ∧ ∃ te pe, w.cell? ⟨g, 0, none⟩ = some (.iface te pe)
theorem Gl.more {w : World} {A A' : Nat → Prop} (h : Gl w A) (ha : ∀ b, A b → A' b) : Gl w A' := fun g hg => by
  obtain ⟨h1, h2⟩ := h g hg
  exact ⟨ha g h1, h2⟩
theorem Gl.ext {w w' : World} {A A' : Nat → Prop} {O : Nat → Prop} (h : Gl w A) (hx : Ext w w' O) (ho : ∀ b, A b → ¬ O b) (ha : ∀ b, A b → A' b) : Gl w' A' := fun g hg => by
  obtain ⟨h1, h2, te, pe, h3⟩ := h g hg
  refine ⟨ha g h1, Nat.lt_of_lt_of_le h2 hx.size, te, pe, ?_⟩
  have hb := hx.block g h2 (ho g h1)
  unfold World.cell? at h3 ⊢
  rw [hb]; exact h3
structure Base where
  w0 : World
  O0 : Nat → Prop
  A0 : Nat → Prop
  σ0 : Sig
  K0 : Nat → Prop
  h0 : List Root
  gl : Gl w0 A0
  gO : ∀ b, A0 b → ¬ O0 b

structure RS (B : Base) (K : Nat → Prop) (σ : Sig) (A : Nat → Prop) (S : St) (a : Act) (w : World) : Prop where
  heap : RHeap w A σ S.heap
  tmps : All2 (RV w A σ S.heap) S.tmps a.tmps.toList
  known : ∀ x ∈ S.tmps, ∀ n ∈ x.ids, K n
  knownH : ∀ n, ∀ m ∈ (rget S.heap n).ids, K m
  dead : ∀ n, ¬ K n → rget S.heap n = .dead
  ext : Ext B.w0 w B.O0
  ale : ∀ b, B.A0 b → A b
  aup : ∀ b, A b → B.A0 b ∨ B.O0 b ∨ B.w0.heap.size ≤ b
  own : ∀ n b o, (rget S.heap n).own = true → σ n = some (b, o) → B.O0 b ∨ B.w0.heap.size ≤ b
  sig0 : ∀ n, B.K0 n → σ n = B.σ0 n
  defers : a.defers = []
  k0 : ∀ n, B.K0 n → K n
  comp : ∀ n, B.K0 n → Compat (rget B.h0 n) (rget S.heap n)

theorem put_tmps_toList (a : Act) (dst : Option Tmp) (u : Value) : (a.put dst u).tmps.toList = (match dst with | some d => a.tmps.toList.set d u | none => a.tmps.toList) := by
  cases dst <;> simp [Act.put]
theorem put_defers (a : Act) (dst : Option Tmp) (u : Value) : (a.put dst u).defers = a.defers := by cases dst <;> rfl
theorem All2.setTmp {R : V → Value → Prop} {tmps : List V} {a : Act} (h : All2 R tmps a.tmps.toList) (dst : Option Tmp) {v : V} {u : Value} (r : R v u) : All2 R (setTmp tmps dst v) (a.put dst u).tmps.toList := by
  rw [put_tmps_toList]
  cases dst with
  | none => exact h
  | some d => exact h.set r d
theorem mem_setTmp {tmps : List V} {dst : Option Tmp} {v x : V} (h : x ∈ setTmp tmps dst v) : x = v ∨ x ∈ tmps := by
  cases dst with
  | none => exact .inr h
  | some d => rcases List.mem_or_eq_of_mem_set h with h | h
              · exact .inr h
              · exact .inl h

section
variable {B : Base} {K : Nat → Prop} {σ : Sig} {A : Nat → Prop} {S : St} {a : Act} {w : World}

theorem RS.gl (R : RS B K σ A S a w) : Gl w A := B.gl.ext R.ext B.gO R.ale
theorem RS.lt (R : RS B K σ A S a w) {n b o : Nat} (ho : (rget S.heap n).own = true) (hs : σ n = some (b, o)) : b < w.heap.size := by
  have hr := R.heap.root n
  cases hq : rget S.heap n with
  | dead => rw [hq] at ho; cases ho
  | fro sz rs => rw [hq] at ho; cases ho
  | var cells => rw [hq] at hr; obtain ⟨b', o', arr, T, e1, e2, _⟩ := hr; rw [hs] at e1; cases e1; exact lt_of_block e2
  | rows sz rs =>
    rw [hq] at hr
    rcases hr.2 with ⟨e1, _⟩ | ⟨b', o', arr, T, e1, e2, _⟩
    · rw [hs] at e1; cases e1
    · rw [hs] at e1; cases e1; exact lt_of_block e2

theorem RS.grow (R : RS B K σ A S a w) {w' : World} {σ' : Sig} {A' : Nat → Prop} {start : Nat} {new : List Root} {dst : Option Tmp} {v : V} {u : Value}
    (hext : Ext w w' fun _ => False) (hA : ∀ b, A b → A' b) (hA' : ∀ b, A' b → A b ∨ w.heap.size ≤ b) (hAlt : ∀ b, A' b → b < w'.heap.size)
    (hsig : ∀ n, K n → σ' n = σ n) (hsig0 : ∀ n, B.K0 n → σ' n = σ n)
    (hfree : ∀ n, start ≤ n → n < start + new.length → ¬ K n)
    (hroot : ∀ k, k < new.length → RRoot w' A' σ' (puts S.heap start new) (start + k) (rget new k))
    (hblk : ∀ k b o, (rget new k).own = true → σ' (start + k) = some (b, o) → w.heap.size ≤ b ∧ ¬ A' b)
    (hinj : ∀ k m b o o', (rget new k).own = true → (rget new m).own = true → σ' (start + k) = some (b, o) → σ' (start + m) = some (b, o') → k = m)
    (hids : ∀ k, ∀ m ∈ (rget new k).ids, K m ∨ (start ≤ m ∧ m < start + new.length))
    (hv : RV w' A' σ' (puts S.heap start new) v u) (hvids : ∀ n ∈ v.ids, K n ∨ (start ≤ n ∧ n < start + new.length)) :
    RS B (fun n => K n ∨ (start ≤ n ∧ n < start + new.length)) σ' A' { tmps := setTmp S.tmps dst v, heap := puts S.heap start new } (a.put dst u) w' := by
  have hold : ∀ n, K n → rget (puts S.heap start new) n = rget S.heap n := fun n hn => by
    rw [rget_puts, if_neg]; intro hh; exact hfree n hh.1 hh.2 hn
  have hwA : ∀ b, A b → w'.heap[b]? = w.heap[b]? := fun b hb => hext.block b (R.heap.lt b hb) (fun h => h)
  have hst : ∀ n, K n → Stays w w' σ σ' S.heap (puts S.heap start new) n := fun n hn =>
    ⟨hsig n hn, by rw [hold n hn]; exact Compat.refl _, fun b o _ _ => hext.wide b⟩
  have hcase : ∀ n, rget (puts S.heap start new) n ≠ .dead → (K n ∧ rget (puts S.heap start new) n = rget S.heap n) ∨ ∃ k, k < new.length ∧ n = start + k ∧ rget (puts S.heap start new) n = rget new k := by
    intro n hn
    rw [rget_puts] at hn ⊢
    by_cases hh : start ≤ n ∧ n < start + new.length
    · rw [if_pos hh] at hn ⊢
      exact .inr ⟨n - start, by omega, by omega, rfl⟩
    · rw [if_neg hh] at hn ⊢
      refine .inl ⟨?_, rfl⟩
      exact Classical.byContradiction fun hk => hn (R.dead n hk)
  refine ⟨⟨fun n => ?_, ?_, ?_, hAlt⟩, ?_, ?_, ?_, ?_, ?_, fun b hb => hA b (R.ale b hb), ?_, ?_, ?_, by rw [put_defers]; exact R.defers, fun n hn => .inl (R.k0 n hn), fun n hn => by rw [hold n (R.k0 n hn)]; exact R.comp n hn⟩
  · by_cases hd : rget (puts S.heap start new) n = .dead
    · rw [hd]; trivial
    · rcases hcase n hd with ⟨hk, e⟩ | ⟨k, hk, rfl, e⟩
      · rw [e]
        exact (R.heap.root n).stays hwA hA (hsig n hk) (fun b o ho hs => hext.block b (R.lt ho hs) (fun h => h)) (fun m hm => hst m (R.knownH n m hm))
      · rw [e]; exact hroot k hk
  · intro n m b o o' ho ho' hs hs'
    have hn : rget (puts S.heap start new) n ≠ .dead := by intro e; rw [e] at ho; cases ho
    have hm : rget (puts S.heap start new) m ≠ .dead := by intro e; rw [e] at ho'; cases ho'
    rcases hcase n hn with ⟨hk, e⟩ | ⟨k, hk, rfl, e⟩ <;> rcases hcase m hm with ⟨hk', e'⟩ | ⟨k', hk', rfl, e'⟩
    · rw [e] at ho; rw [e'] at ho'; rw [hsig _ hk] at hs; rw [hsig _ hk'] at hs'; exact R.heap.inj n m b o o' ho ho' hs hs'
    · rw [e] at ho; rw [e'] at ho'; rw [hsig _ hk] at hs; have := R.lt ho hs; have := (hblk k' b o' ho' hs').1; omega
    · rw [e] at ho; rw [e'] at ho'; rw [hsig _ hk'] at hs'; have := R.lt ho' hs'; have := (hblk k b o ho hs).1; omega
    · rw [e] at ho; rw [e'] at ho'; rw [hinj k k' b o o' ho ho' hs hs']
  · intro n b o ho hs
    have hn : rget (puts S.heap start new) n ≠ .dead := by intro e; rw [e] at ho; cases ho
    rcases hcase n hn with ⟨hk, e⟩ | ⟨k, hk, rfl, e⟩
    · rw [e] at ho; rw [hsig _ hk] at hs
      intro hab
      rcases hA' b hab with h | h
      · exact R.heap.off n b o ho hs h
      · have := R.lt ho hs; omega
    · rw [e] at ho; exact (hblk k b o ho hs).2
  · refine All2.setTmp (R.tmps.mono fun x u hx r => ?_) dst hv
    exact r.stays hwA hA fun n hn => hst n (R.known x hx n hn)
  · intro x hx n hn
    rcases mem_setTmp hx with rfl | hx
    · exact hvids n hn
    · exact .inl (R.known x hx n hn)
  · intro n m hm
    by_cases hd : rget (puts S.heap start new) n = .dead
    · rw [hd] at hm; simp [Root.ids] at hm
    · rcases hcase n hd with ⟨hk, e⟩ | ⟨k, hk, rfl, e⟩
      · rw [e] at hm; exact .inl (R.knownH n m hm)
      · rw [e] at hm; exact hids k m hm
  · intro n hn
    rw [rget_puts, if_neg (fun h => hn (.inr h))]
    exact R.dead n fun h => hn (.inl h)
  · exact R.ext.trans (hext.mono fun k hk h => h.elim)
  · intro b hb
    rcases hA' b hb with h | h
    · exact R.aup b h
    · exact .inr (.inr (Nat.le_trans R.ext.size h))
  · intro n b o ho hs
    have hn : rget (puts S.heap start new) n ≠ .dead := by intro e; rw [e] at ho; cases ho
    rcases hcase n hn with ⟨hk, e⟩ | ⟨k, hk, rfl, e⟩
    · rw [e] at ho; rw [hsig _ hk] at hs; exact R.own n b o ho hs
    · rw [e] at ho; exact .inr (Nat.le_trans R.ext.size (hblk k b o ho hs).1)
  · intro n hn; exact (hsig0 n hn).trans (R.sig0 n hn)

theorem RS.value (R : RS B K σ A S a w) {dst : Option Tmp} {v : V} {u : Value} (hv : RV w A σ S.heap v u) (hvids : ∀ n ∈ v.ids, K n) :
    RS B K σ A { tmps := setTmp S.tmps dst v, heap := S.heap } (a.put dst u) w := by
  refine ⟨R.heap, All2.setTmp R.tmps dst hv, ?_, R.knownH, R.dead, R.ext, R.ale, R.aup, R.own, R.sig0, by rw [put_defers]; exact R.defers, R.k0, R.comp⟩
  intro x hx n hn
  rcases mem_setTmp hx with rfl | hx
  · exact hvids n hn
  · exact R.known x hx n hn
theorem RS.mono (R : RS B K σ A S a w) {K' : Nat → Prop} (h : ∀ n, K n → K' n) : RS B K' σ A S a w :=
  ⟨R.heap, R.tmps, fun x hx n hn => h n (R.known x hx n hn), fun n m hm => h m (R.knownH n m hm), fun n hn => R.dead n fun hk => hn (h n hk), R.ext, R.ale, R.aup, R.own, R.sig0, R.defers, fun n hn => h n (R.k0 n hn), R.comp⟩
theorem RS.drew (R : RS B K σ A S a w) {w' : World} (hh : w'.heap = w.heap) (h1 : w'.os = w.os) (h2 : w'.tape = w.tape) (h3 : w'.output = w.output) : RS B K σ A S a w' := by
  have hb : ∀ b : Nat, w'.heap[b]? = w.heap[b]? := fun b => by rw [hh]
  have hst : ∀ m, Stays w w' σ σ S.heap S.heap m := fun m => ⟨rfl, Compat.refl _, fun b o _ _ => Wide.of_block (hb b)⟩
  exact ⟨⟨fun n => (R.heap.root n).stays (fun b _ => hb b) (fun b h => h) rfl (fun b o _ _ => hb b) (fun m _ => hst m), R.heap.inj, R.heap.off, fun b h => by rw [hh]; exact R.heap.lt b h⟩,
    R.tmps.mono fun x u hx r => r.stays (fun b _ => hb b) (fun b h => h) fun m _ => hst m,
    R.known, R.knownH, R.dead, ⟨h1.trans R.ext.os, h2.trans R.ext.tape, h3.trans R.ext.output, by rw [hh]; exact R.ext.size, fun k hk ho => (hb k).trans (R.ext.block k hk ho), fun k => (R.ext.wide k).trans (Wide.of_block (hb k))⟩, R.ale, R.aup, R.own, R.sig0, R.defers, R.k0, R.comp⟩
end

def ZV : V1 → Value → Prop
  | .c (.lit v), u => u = v ∧ v.oneCell' = true
  | .nil _, u => u = .slice none 0 0
  | _, _ => False
def KindOk (d : Option TypeDesc) : TK → Prop
  | .int k => d = some (.int k)
  | .bool => d = some .bool
  | .string => d = some .string
  | .slice e => d = some (.slice e)
  | .struct fs => ∃ F : Array Field, d = some (.struct F) ∧ F.toList.map (fun f => (f.offset, f.type)) = fs
  | .other => ∃ x, d = some x ∧ (match x with | .struct _ => False | .array _ _ => False | _ => True)
structure TyOk (P : Program) (t : TypeId) (i : TI) : Prop where
  info : ∃ d, P.info? t = some d ∧ d.size = i.size ∧ d.bytes = i.bytes ∧ ∃ z, d.zero = some z ∧ All2 ZV i.zero z.cells.toList ∧ (i.isAgg = true → ∃ cs, z = .agg cs)
  kind : KindOk (P.underlying t) i.kind
  len : i.zero.length = i.size
  parts : ∀ F : Array Field, P.underlying t = some (.struct F) → ∀ f ∈ F, (P.info? f.type).isSome = true
structure EnvOk (P : Program) (E : Env) : Prop where
  ty : ∀ t i, E.ty t = some i → TyOk P t i
  fn : ∀ f c, E.fn f = some c → P.funcs[f]? = some c ∧ c.name ≠ "runtime.NumGoroutine"
  mixed : P.follows .mixedOrders = true

theorem run_und {P : Program} {t : TypeId} {d : TypeDesc} (h : P.underlying t = some d) (w : World) : (underlying t).run P w = .ok d w := by
  simp [underlying, h]
theorem run_info {P : Program} {t : TypeId} {d : TypeInfo} (h : P.info? t = some d) (w : World) : (typeInfo t).run P w = .ok d w := by
  simp [typeInfo, h]
theorem TyOk.size {P : Program} {t : TypeId} {i : TI} (h : TyOk P t i) (w : World) : (sizeOf t).run P w = .ok i.size w := by
  obtain ⟨d, e, hs, _⟩ := h.info
  simp [sizeOf, run_info e, hs]
theorem TyOk.desc {P : Program} {t : TypeId} {i : TI} (h : TyOk P t i) : ∃ x, P.underlying t = some x ∧ (match x with | .struct _ | .array _ _ => true | _ => false) = i.isAgg := by
  have hk := h.kind
  cases hi : i.kind with
  | int k => rw [hi] at hk; exact ⟨_, hk, by simp [TI.isAgg, hi]⟩
  | bool => rw [hi] at hk; exact ⟨_, hk, by simp [TI.isAgg, hi]⟩
  | string => rw [hi] at hk; exact ⟨_, hk, by simp [TI.isAgg, hi]⟩
  | slice e => rw [hi] at hk; exact ⟨_, hk, by simp [TI.isAgg, hi]⟩
  | struct fs => rw [hi] at hk; obtain ⟨F, e, _⟩ := hk; exact ⟨_, e, by simp [TI.isAgg, hi]⟩
  | other => rw [hi] at hk; obtain ⟨x, e, hx⟩ := hk; exact ⟨x, e, by cases x <;> simp_all [TI.isAgg]⟩
theorem TyOk.agg {P : Program} {t : TypeId} {i : TI} (h : TyOk P t i) (w : World) : (isAgg t).run P w = .ok i.isAgg w := by
  obtain ⟨x, e, hx⟩ := h.desc
  rw [← hx]
  simp only [isAgg, Sem.run_bind, run_und e, Result.andThen_ok]
  cases x <;> rfl

section
variable {P : Program} {E : Env} {w : World} {A : Nat → Prop} {σ : Sig} {h : List Root}
theorem constCell_ok {sz : Nat} {v : Value} {x : V1} (hx : constCell sz v = some x) : RV1 w A σ h x v ∧ x.ids = [] ∧ v.oneCell' = true := by
  unfold constCell at hx
  split at hx
  · simp at hx; subst hx; exact ⟨rfl, rfl, rfl⟩
  · cases hx
  · cases hx
  · cases hx
  · rename_i h1 h2 h3 h4
    simp at hx; subst hx
    have : v.oneCell' = true := by cases v <;> simp_all [Value.oneCell']
    exact ⟨RC.lit_iff.2 ⟨rfl, this⟩, rfl, this⟩
theorem constV_ok {t : TypeId} {v : Value} {x : V} (hx : constV E t v = some x) : RV w A σ h x v ∧ x.ids = [] := by
  unfold constV at hx
  split at hx
  · rename_i cs
    split at hx
    · rename_i i hi
      split at hx
      · rename_i hl
        cases hm : mapO constPart (cs.toList.zip i.zero) with
        | none => simp [hm] at hx
        | some xs =>
          simp [hm] at hx; subst hx
          have hlen := mapO_length hm
          have key : All2 (RV1 w A σ h) xs cs.toList ∧ ∀ y ∈ xs, y.ids = [] := by
            have : ∀ (l : List Value) (z : List V1) (xs : List V1), l.length = z.length → mapO constPart (l.zip z) = some xs → All2 (RV1 w A σ h) xs l ∧ ∀ y ∈ xs, y.ids = [] := by
              intro l
              induction l with
              | nil => intro z xs _ hm; simp [mapO_nil] at hm; subst hm; exact ⟨.nil, by simp⟩
              | cons u l ih =>
                intro z xs hl hm
                cases z with
                | nil => simp at hl
                | cons z0 z =>
                  obtain ⟨y, ys, h1, h2, rfl⟩ := mapO_cons hm
                  obtain ⟨h3, h4⟩ := ih z ys (by simpa using hl) h2
                  have h5 : RV1 w A σ h y u ∧ y.ids = [] := by
                    unfold constPart at h1
                    split at h1 <;> exact ⟨(constCell_ok (w := w) (A := A) (σ := σ) (h := h) h1).1, (constCell_ok (w := w) (A := A) (σ := σ) (h := h) h1).2.1⟩
                  exact ⟨.cons h5.1 h3, fun q hq => by simp at hq; rcases hq with rfl | hq; exact h5.2; exact h4 q hq⟩
            exact this cs.toList i.zero xs (by simpa using hl) hm
          refine ⟨⟨cs, rfl, key.1⟩, ?_⟩
          simp only [V.ids, W.ids, List.flatMap_eq_nil_iff]
          exact fun y hy => key.2 y hy
      · cases hx
    · cases hx
  · split at hx
    · split at hx
      · simp at hx; subst hx; exact ⟨rfl, rfl⟩
      · cases hx
    · cases hx
  · cases hc : constCell 0 v with
    | none => simp [hc] at hx
    | some y => simp [hc] at hx; subst hx; exact ⟨(constCell_ok (w := w) (A := A) (σ := σ) (h := h) hc).1, (constCell_ok (w := w) (A := A) (σ := σ) (h := h) hc).2.1⟩
end
section
variable {P : Program} {E : Env} {B : Base} {K : Nat → Prop} {σ : Sig} {A : Nat → Prop} {S : St} {a : Act} {w : World}
theorem opd_ok (R : RS B K σ A S a w) {t : TypeId} {x : Operand} {v : V} (h : opd E S.tmps t x = some v) : RV w A σ S.heap v (a.eval x) ∧ ∀ n ∈ v.ids, K n := by
  cases x with
  | tmp n =>
    simp only [opd] at h
    have h' : S.tmps[n]? = some v := by
      split at h
      · cases h
      · exact h
    obtain ⟨u, hu, r⟩ := R.tmps.get h'
    refine ⟨?_, R.known v (List.mem_of_getElem? h')⟩
    have : a.eval (.tmp n) = u := by simp only [Act.eval]; rw [Array.getD_eq_getD_getElem?]; rw [Array.getElem?_toList] at hu; simp [hu]
    rw [this]; exact r
  | const c =>
    simp only [opd] at h
    obtain ⟨h1, h2⟩ := constV_ok (w := w) (A := A) (σ := σ) (h := S.heap) h
    exact ⟨h1, by rw [h2]; simp⟩
  | func f =>
    simp only [opd, Option.some.injEq] at h; subst h
    exact ⟨⟨#[], rfl, .nil⟩, by simp [V.ids, W.ids, V1.ids, vone]⟩
  | global g => simp [opd] at h
end

end Go.Proofs.YtfokmnafgabdiaaGreatDoor.Eng
namespace Go.Proofs.YtfokmnafgabdiaaGreatDoor.Eng
open Go Go.RowKit
set_option linter.unusedVariables false
set_option linter.unusedSimpArgs false

section
variable {w : World} {A : Nat → Prop} {σ : Sig} {h : List Root}
theorem boolOf_ok {v : V} {p : Bool} {u : Value} (h1 : boolOf? v = some p) (r : RV w A σ h v u) : u = .bool p := by
  unfold boolOf? at h1
  split at h1
  · simp at h1; subst h1; exact (RC.lit_iff.1 r).1
  · cases h1
theorem intOf_ok {v : V} {n : Int} {u : Value} (h1 : intOf? v = some n) (r : RV w A σ h v u) : ∃ k, u = .int k n := by
  unfold intOf? at h1
  split at h1
  · rename_i k m; simp at h1; subst h1; exact ⟨k, (RC.lit_iff.1 r).1⟩
  · cases h1
theorem vcells_ok {v : V} {xs : List V1} {u : Value} (h1 : v.cells = some xs) (r : RV w A σ h v u) : All2 (RV1 w A σ h) xs u.cells.toList ∧ (∀ n, n ∈ xs.flatMap V1.ids → n ∈ v.ids) := by
  unfold V.cells at h1
  split at h1
  · rename_i x; simp at h1; subst h1
    refine ⟨?_, fun n hn => by simpa [V.ids, W.ids] using hn⟩
    have : u.cells = #[u] := by
      cases x with
      | c x => have := RC.one (show RC w A x u from r); cases u <;> simp_all [Value.cells, Value.oneCell']
      | nil sz => have : u = .slice none 0 0 := r
                  subst this; rfl
      | ref n off len cap => have := (show RRef w σ h n off len cap u from r).1; cases u <;> simp_all [Value.cells, Value.oneCell']
      | pt p => cases p with
        | ptr n i j => obtain ⟨b, o, e⟩ := (show RPt w A σ h (.ptr n i j) u from r).1; subst e; rfl
        | rp cells => obtain ⟨b, o, e, _⟩ := (show RPt w A σ h (.rp cells) u from r); subst e; rfl
      | clo g caps => obtain ⟨us, e, _⟩ := (show ∃ us, u = .func (.func g) #[] us ∧ _ from r); subst e; rfl
    rw [this]
    exact .cons r .nil
  · rename_i ys; simp at h1; subst h1
    obtain ⟨us, e, h2⟩ := r
    subst e
    exact ⟨h2, fun n hn => by simpa [V.ids, W.ids] using hn⟩
  · cases h1
theorem RV1.one {x : V1} {u : Value} (r : RV1 w A σ h x u) : u.oneCell' = true := by
  cases x with
  | c x => exact RC.one r
  | nil sz => have : u = .slice none 0 0 := r
              subst this; rfl
  | ref n off len cap => exact (show RRef w σ h n off len cap u from r).1
  | pt p => cases p with
    | ptr n i j => obtain ⟨b, o, e⟩ := (show RPt w A σ h (.ptr n i j) u from r).1; subst e; rfl
    | rp cells => obtain ⟨b, o, e, _⟩ := (show RPt w A σ h (.rp cells) u from r); subst e; rfl
  | clo g caps => obtain ⟨us, e, _⟩ := (show ∃ us, u = .func (.func g) #[] us ∧ _ from r); subst e; rfl
theorem ZV.rv1 {x : V1} {u : Value} (r : ZV x u) : RV1 w A σ h x u := by
  cases x with
  | c x => cases x with
    | lit v => exact RC.lit_iff.2 r
    | ro sz rows => exact r.elim
    | any => exact r.elim
    | err => exact r.elim
  | nil sz => exact r
  | ref n off len cap => exact r.elim
  | pt p => exact r.elim
  | clo g caps => exact r.elim
theorem ZV.ids {x : V1} {u : Value} (r : ZV x u) : x.ids = [] := by
  cases x with
  | c x => rfl
  | nil sz => rfl
  | ref n off len cap => exact r.elim
  | pt p => exact r.elim
  | clo g caps => exact r.elim
theorem All2.zids {xs : List V1} {us : List Value} (r : All2 ZV xs us) : xs.flatMap V1.ids = [] := by
  induction r with
  | nil => rfl
  | cons r _ ih => simp [r.ids, ih]
theorem asType_ok {i : TI} {cs : List V1} {us : List Value} {j : Nat} {v : V} (h1 : asType i cs j = some v) (r : All2 (RV1 w A σ h) cs us) :
    ((us.drop j).take i.size).length = i.size ∧ (if i.isAgg then RV w A σ h v (.agg ((us.drop j).take i.size).toArray) else ∃ u, (us.drop j).take i.size = [u] ∧ RV w A σ h v u) ∧ ∀ n ∈ v.ids, n ∈ cs.flatMap V1.ids := by
  unfold asType at h1
  have r2 := (r.drop j).take i.size
  have hsub : ∀ y ∈ (cs.drop j).take i.size, y ∈ cs := fun y hy => List.mem_of_mem_drop (List.mem_of_mem_take hy)
  simp only at h1
  split at h1
  · rename_i hl
    refine ⟨by rw [r2.length]; exact hl, ?_⟩
    split at h1
    · rename_i ha
      simp at h1; subst h1
      rw [if_pos ha]
      exact ⟨⟨_, rfl, by simpa using r2⟩, fun n hn => by
        simp only [V.ids, W.ids, List.mem_flatMap] at hn ⊢
        obtain ⟨y, hy, hn⟩ := hn; exact ⟨y, hsub y hy, hn⟩⟩
    · rename_i ha
      rw [if_neg ha]
      split at h1
      · rename_i x hx
        simp at h1; subst h1
        have hx2 := r2
        rw [hx] at hx2
        generalize (us.drop j).take i.size = l at hx2
        cases hx2 with
        | cons r0 rn => cases rn with
          | nil =>
            refine ⟨⟨_, rfl, r0⟩, fun n hn => ?_⟩
            simp only [List.mem_flatMap]
            exact ⟨x, hsub x (by rw [hx]; simp), by simpa [V.ids, W.ids, vone] using hn⟩
      · cases h1
  · cases h1
end

theorem ids_map_c (l : List C) : (l.map V1.c).flatMap V1.ids = [] := by
  induction l with
  | nil => rfl
  | cons x l ih => simp only [List.map_cons, List.flatMap_cons, ih]; rfl
theorem toList_getElem? {α : Type} (a : Array α) (i : Nat) : a.toList[i]? = a[i]? := Array.getElem?_toList

section
variable {P : Program} {E : Env} {B : Base} {K : Nat → Prop} {σ : Sig} {A : Nat → Prop} {S : St} {a : Act} {w : World}

theorem cellsAt_ok (R : RS B K σ A S a w) {p : Pt} {cs : List V1} {u : Value} (h1 : cellsAt S.heap p = some cs) (r : RPt w A σ S.heap p u) :
    ∃ b o us, u = .pointer (some ⟨b, o, none⟩) ∧ All2 (RV1 w A σ S.heap) cs us ∧ (∀ j v, us[j]? = some v → w.cell? ⟨b, o + j, none⟩ = some v) ∧ (∀ n ∈ cs.flatMap V1.ids, K n) ∧ (cs ≠ [] → A b ∨ ∃ n o', (rget S.heap n).own = true ∧ σ n = some (b, o')) := by
  cases p with
  | rp cells =>
    simp only [cellsAt, Option.some.injEq] at h1; subst h1
    obtain ⟨b, o, e, hc⟩ := r
    let us := (List.range cells.length).map fun j => (w.cell? ⟨b, o + j, none⟩).getD undef
    refine ⟨b, o, us, e, ?_, ?_, ?_, ?_⟩
    · refine All2.of_get (by simp [us]) fun j x hx => ?_
      simp only [List.getElem?_map, Option.map_eq_some_iff] at hx
      obtain ⟨c, hcj, rfl⟩ := hx
      obtain ⟨ha, v, hv, rc⟩ := hc j c hcj
      have hj : j < cells.length := by rcases Nat.lt_or_ge j cells.length with h | h; exact h; simp [List.getElem?_eq_none h] at hcj
      exact ⟨v, by simp [us, hj, hv], rc⟩
    · intro j v hv
      have hj : j < cells.length := by
        rcases Nat.lt_or_ge j cells.length with h | h
        · exact h
        · simp [us, List.getElem?_eq_none, h] at hv
      obtain ⟨ha, v', hv', _⟩ := hc j cells[j] (by simp [hj])
      simp [us, hj, hv'] at hv; rw [hv', hv]
    · intro n hn; rw [ids_map_c] at hn; cases hn
    · intro hne
      cases cells with
      | nil => exact absurd rfl hne
      | cons c0 cells => exact .inl (hc 0 c0 (by simp)).1
  | ptr n i j =>
    simp only [cellsAt] at h1
    have hroot := R.heap.root n
    obtain ⟨_, hv, hrw⟩ := r
    cases hq : rget S.heap n with
    | dead => rw [hq] at h1; cases h1
    | var cells =>
      rw [hq] at h1 hroot
      simp only at h1
      split at h1
      · simp at h1; subst h1
        obtain ⟨b, o, e1, e2⟩ := hv cells hq
        obtain ⟨b', o', arr, T, f1, f2, f3, f4⟩ := hroot
        rw [e1] at f1; cases f1
        refine ⟨b, o + j, ((arr.toList.drop o).take cells.length).drop j, e2, ?_, ?_, ?_, fun _ => .inr ⟨n, o, by rw [hq]; rfl, e1⟩⟩
        · refine All2.drop (All2.of_get (by simp; omega) fun m x hx => ?_) j
          obtain ⟨v, hv, r⟩ := f4 m x hx
          have hm : m < cells.length := by rcases Nat.lt_or_ge m cells.length with h | h; exact h; simp [List.getElem?_eq_none h] at hx
          exact ⟨v, by rw [List.getElem?_take_of_lt hm, List.getElem?_drop, toList_getElem?, hv], r⟩
        · intro m v hv
          rw [List.getElem?_drop, List.getElem?_take, List.getElem?_drop, toList_getElem?] at hv
          split at hv
          · simp only [World.cell?, f2]; simpa [show o + (j + m) = o + j + m from by omega] using hv
          · cases hv
        · intro m hm
          refine R.knownH n m ?_
          rw [hq]; simp only [Root.ids, List.mem_flatMap] at hm ⊢
          obtain ⟨x, hx, hm⟩ := hm; exact ⟨x, List.mem_of_mem_drop hx, hm⟩
      · cases h1
    | rows sz rs =>
      rw [hq] at h1 hroot
      simp only [Option.map_eq_some_iff] at h1
      obtain ⟨row, hrow, rfl⟩ := h1
      obtain ⟨b, o, e1, e2⟩ := hrw sz rs (.inl hq)
      rcases hroot.2 with ⟨f1, _⟩ | ⟨b', o', arr, T, f1, f2, f3, f4⟩
      · rw [e1] at f1; cases f1
      · rw [e1] at f1; cases f1
        let us := (List.range row.length).map fun m => (arr[o + i * sz + m]?).getD undef
        have hus : ∀ m c, row[m]? = some c → ∃ v, arr[o + i * sz + m]? = some v ∧ us[m]? = some v ∧ RC w A c v := fun m c hm => by
          obtain ⟨v, hv, rc⟩ := f4 i row m c hrow hm
          have hl : m < row.length := by rcases Nat.lt_or_ge m row.length with h | h; exact h; simp [List.getElem?_eq_none h] at hm
          exact ⟨v, hv, by simp [us, hl, hv], rc⟩
        refine ⟨b, o + i * sz + j, us.drop j, e2, ?_, ?_, ?_, fun _ => .inr ⟨n, o, by rw [hq]; rfl, e1⟩⟩
        · rw [List.map_drop]
          refine All2.drop (All2.of_get (by simp [us]) fun m x hx => ?_) j
          simp only [List.getElem?_map, Option.map_eq_some_iff] at hx
          obtain ⟨c, hcj, rfl⟩ := hx
          obtain ⟨v, _, hv, rc⟩ := hus m c hcj
          exact ⟨v, hv, rc⟩
        · intro m v hv
          rw [List.getElem?_drop] at hv
          have hl : j + m < row.length := by
            rcases Nat.lt_or_ge (j + m) row.length with h | h
            · exact h
            · simp [us, List.getElem?_eq_none, h] at hv
          obtain ⟨v', hv', hv2, _⟩ := hus (j + m) row[j + m] (by simp [hl])
          rw [hv2] at hv; cases hv
          simp only [World.cell?, f2]; simpa [show o + i * sz + (j + m) = o + i * sz + j + m from by omega] using hv'
        · intro m hm; rw [ids_map_c] at hm; cases hm
    | fro sz rs =>
      rw [hq] at h1 hroot
      simp only [Option.map_eq_some_iff] at h1
      obtain ⟨row, hrow, rfl⟩ := h1
      obtain ⟨b, o, e1, e2⟩ := hrw sz rs (.inr hq)
      rcases hroot.2 with ⟨f1, _⟩ | ⟨b', o', f1, f4⟩
      · rw [e1] at f1; cases f1
      · rw [e1] at f1; cases f1
        let us := (List.range row.length).map fun m => (w.cell? ⟨b, o + i * sz + m, none⟩).getD undef
        have hus : ∀ m c, row[m]? = some c → ∃ v, w.cell? ⟨b, o + i * sz + m, none⟩ = some v ∧ us[m]? = some v ∧ RC w A c v := fun m c hm => by
          obtain ⟨_, v, hv, rc⟩ := f4 i row m c hrow hm
          have hl : m < row.length := by rcases Nat.lt_or_ge m row.length with h | h; exact h; simp [List.getElem?_eq_none h] at hm
          exact ⟨v, hv, by simp [us, hl, hv], rc⟩
        refine ⟨b, o + i * sz + j, us.drop j, e2, ?_, ?_, ?_, fun hne => ?_⟩
        rotate_left 3
        · cases row with
          | nil => simp at hne
          | cons c0 row => exact .inl (f4 i _ 0 c0 hrow (by simp)).1
        · rw [List.map_drop]
          refine All2.drop (All2.of_get (by simp [us]) fun m x hx => ?_) j
          simp only [List.getElem?_map, Option.map_eq_some_iff] at hx
          obtain ⟨c, hcj, rfl⟩ := hx
          obtain ⟨v, _, hv, rc⟩ := hus m c hcj
          exact ⟨v, hv, rc⟩
        · intro m v hv
          rw [List.getElem?_drop] at hv
          have hl : j + m < row.length := by
            rcases Nat.lt_or_ge (j + m) row.length with h | h
            · exact h
            · simp [us, List.getElem?_eq_none, h] at hv
          obtain ⟨v', hv', hv2, _⟩ := hus (j + m) row[j + m] (by simp [hl])
          rw [hv2] at hv; cases hv
          simpa [show o + i * sz + (j + m) = o + i * sz + j + m from by omega] using hv'
        · intro m hm; rw [ids_map_c] at hm; cases hm

theorem ptrOf_ok {v : V} {p : Pt} {u : Value} {h : List Root} (h1 : ptrOf v = some p) (r : RV w A σ h v u) : RPt w A σ h p u ∧ v.ids = p.ids := by
  unfold ptrOf at h1
  split at h1
  · simp at h1; subst h1; exact ⟨r, by simp [V.ids, W.ids, V1.ids]⟩
  · cases h1

def Val (P : Program) (K : Nat → Prop) (σ : Sig) (A : Nat → Prop) (S : St) (w : World) (s : Sem Next) (v : V) : Prop :=
  ∃ u, s.run P w = .ok (.value u) w ∧ RV w A σ S.heap v u ∧ ∀ n ∈ v.ids, K n

theorem load_ok (EO : EnvOk P E) (R : RS B K σ A S a w) {t : TypeId} {i : TI} {x : Operand} {v0 : V} {p : Pt} {cs : List V1} {v : V} {t0 : TypeId}
    (h1 : E.ty t = some i) (h2 : opd E S.tmps t0 x = some v0) (h3 : ptrOf v0 = some p) (h4 : cellsAt S.heap p = some cs) (h5 : asType i cs 0 = some v) :
    Val P K σ A S w (do pure (.value (← Instr.loadAt t (a.eval x)))) v := by
  obtain ⟨r0, k0⟩ := opd_ok R h2
  obtain ⟨r1, _⟩ := ptrOf_ok h3 r0
  obtain ⟨b, o, us, e, r2, hc, hk, _⟩ := cellsAt_ok R h4 r1
  obtain ⟨hl, h6, h7⟩ := asType_ok h5 r2
  have T := EO.ty t i h1
  have hcells : (loadCells ⟨b, o, none⟩ i.size).run P w = .ok ((us.drop 0).take i.size).toArray w := by
    have := run_loadCells_list (P := P) w ⟨b, o, none⟩ ((us.drop 0).take i.size) (fun j v hv => by
      have hadd : (⟨b, o, none⟩ : Addr).add j = ⟨b, o + j, none⟩ := by unfold Addr.add; split <;> simp_all
      rw [hadd]; refine hc j v ?_
      rw [List.getElem?_take] at hv
      split at hv
      · simpa using hv
      · cases hv)
    rwa [hl] at this
  by_cases ha : i.isAgg = true
  · rw [if_pos ha] at h6
    refine ⟨_, ?_, h6, fun n hn => hk n (h7 n hn)⟩
    simp [Instr.loadAt, Instr.sureAddr, e, loadVar, T.agg, ha, T.size, hcells]
  · rw [if_neg ha] at h6
    obtain ⟨u, hu, r⟩ := h6
    refine ⟨u, ?_, r, fun n hn => hk n (h7 n hn)⟩
    have hcell : w.cell? ⟨b, o, none⟩ = some u := by
      have : us[0]? = some u := by
        have := congrArg (·[0]?) hu
        simp [List.getElem?_take] at this
        exact this.2
      simpa using hc 0 u this
    have hf : i.isAgg = false := by simpa using ha
    simp [Instr.loadAt, Instr.sureAddr, e, loadVar, T.agg, hf, hcell]
end

end Go.Proofs.YtfokmnafgabdiaaGreatDoor.Eng
namespace Go.Proofs.YtfokmnafgabdiaaGreatDoor.Eng
open Go Go.RowKit
set_option linter.unusedVariables false
set_option linter.unusedSimpArgs false

def SliceIs (w : World) (A : Nat → Prop) (sz : Nat) (rows : List (List C)) (u : Value) : Prop :=
  ∃ a k, u = .slice a rows.length k ∧ rows.length ≤ k ∧ (∀ r ∈ rows, r.length = sz) ∧
    ∀ i r j c, rows[i]? = some r → r[j]? = some c → ∃ b o v, a = some ⟨b, o, none⟩ ∧ w.cell? ⟨b, o + i * sz + j, none⟩ = some v ∧ RC w A c v

section
variable {P : Program} {E : Env} {B : Base} {K : Nat → Prop} {σ : Sig} {A : Nat → Prop} {S : St} {a : Act} {w : World}

theorem get_view {α : Type} {rs : List α} {off len i : Nat} {r : α} (h : ((rs.drop off).take len)[i]? = some r) : rs[off + i]? = some r ∧ i < len := by
  rw [List.getElem?_take] at h
  split at h
  · rw [List.getElem?_drop] at h; exact ⟨h, by assumption⟩
  · cases h
theorem rowsOf_ok (R : RS B K σ A S a w) {y : V1} {sz : Nat} {rows : List (List C)} {u : Value} (h1 : rowsOf S.heap y = some (sz, rows)) (r : RV1 w A σ S.heap y u) : SliceIs w A sz rows u := by
  cases y with
  | c x => cases x with
    | lit v => simp [rowsOf] at h1
    | any => simp [rowsOf] at h1
    | err => simp [rowsOf] at h1
    | ro sz' rows' =>
      simp only [rowsOf, Option.some.injEq, Prod.mk.injEq] at h1
      obtain ⟨rfl, rfl⟩ := h1
      obtain ⟨ad, cap, e1, e2, e3, e4⟩ := RC.ro r
      exact ⟨ad, cap, e1, e2, e3, fun i r j c hi hj => by obtain ⟨b, o, v, q1, q2, q3, q4⟩ := e4 i r j c hi hj; exact ⟨b, o, v, q1, q3, q4⟩⟩
  | nil sz' =>
    simp only [rowsOf, Option.some.injEq, Prod.mk.injEq] at h1
    obtain ⟨rfl, rfl⟩ := h1
    have : u = .slice none 0 0 := r
    exact ⟨none, 0, this, by simp, by simp, fun i r j c hi => by simp at hi⟩
  | pt p => simp [rowsOf] at h1
  | clo g caps => simp [rowsOf] at h1
  | ref n off len cap =>
    have hroot := R.heap.root n
    obtain ⟨hone, hr⟩ := r
    have key : ∃ sz' rs, (rget S.heap n = .rows sz' rs ∨ rget S.heap n = .fro sz' rs) ∧ sz = sz' ∧ rows = (rs.drop off).take len := by
      simp only [rowsOf] at h1
      cases hq : rget S.heap n with
      | dead => simp [hq, Root.ro?] at h1
      | var cells => simp [hq, Root.ro?] at h1
      | rows sz' rs => simp [hq, Root.ro?] at h1; exact ⟨sz', rs, .inl rfl, h1.1.symm, h1.2.symm⟩
      | fro sz' rs => simp [hq, Root.ro?] at h1; exact ⟨sz', rs, .inr rfl, h1.1.symm, h1.2.symm⟩
    obtain ⟨sz', rs, hq, rfl, rfl⟩ := key
    obtain ⟨hlen, ad, k, e1, e2, e3, e4⟩ := hr sz rs hq
    have hl : ((rs.drop off).take len).length = len := by simp; omega
    refine ⟨ad, k, by rw [hl]; exact e1, by rw [hl]; exact e2, ?_, ?_⟩
    · intro r hr
      have hr := List.mem_of_mem_drop (List.mem_of_mem_take hr)
      rcases hq with hq | hq <;> rw [hq] at hroot <;> exact hroot.1 r hr
    · intro i r j c hi hj
      obtain ⟨hi', hil⟩ := get_view hi
      rcases e4 with e4 | ⟨b, o, f1, f2, f3⟩
      · omega
      · have hcell : ∃ v, w.cell? ⟨b, o + (off + i) * sz + j, none⟩ = some v ∧ RC w A c v := by
          rcases hq with hq | hq <;> rw [hq] at hroot
          · rcases hroot.2 with ⟨g1, g2⟩ | ⟨b', o', arr, T, g1, g2, g3, g4⟩
            · rw [f1] at g1; cases g1
            · rw [f1] at g1; cases g1
              obtain ⟨v, hv, rc⟩ := g4 (off + i) r j c hi' hj
              exact ⟨v, by simp only [World.cell?, g2]; simpa using hv, rc⟩
          · rcases hroot.2 with ⟨g1, g2⟩ | ⟨b', o', g1, g4⟩
            · rw [f1] at g1; cases g1
            · rw [f1] at g1; cases g1
              obtain ⟨_, v, hv, rc⟩ := g4 (off + i) r j c hi' hj
              exact ⟨v, hv, rc⟩
        obtain ⟨v, hv, rc⟩ := hcell
        exact ⟨b, o + off * sz, v, f2, by rw [show o + off * sz + i * sz + j = o + (off + i) * sz + j from by rw [Nat.add_mul]; omega]; exact hv, rc⟩

theorem move_ok (R : RS B K σ A S a w) {t : TypeId} {x : Operand} {v : V} (h : opd E S.tmps t x = some v) : Val P K σ A S w (pure (.value (a.eval x))) v :=
  ⟨_, rfl, (opd_ok R h).1, (opd_ok R h).2⟩
theorem pick_ok (R : RS B K σ A S a w) {t t0 : TypeId} {c x y : Operand} {u v q : V} {p : Bool} (h0 : opd E S.tmps t0 c = some q) (hq : boolOf? q = some p) (h1 : opd E S.tmps t x = some u) (h2 : opd E S.tmps t y = some v) :
    Val P K σ A S w (do pure (.value (if ← asBool (a.eval c) then a.eval x else a.eval y))) (if p then u else v) := by
  have e := boolOf_ok hq (opd_ok R h0).1
  cases p
  · exact ⟨a.eval y, by simp [e, asBool], (opd_ok R h2).1, (opd_ok R h2).2⟩
  · exact ⟨a.eval x, by simp [e, asBool], (opd_ok R h1).1, (opd_ok R h1).2⟩
theorem vlit_ok {h : List Root} {v : Value} (hv : v.oneCell' = true) : RV w A σ h (vlit v) v ∧ ∀ n ∈ (vlit v).ids, K n :=
  ⟨RC.lit_iff.2 ⟨rfl, hv⟩, by simp [vlit, V.ids, W.ids, V1.ids]⟩

theorem intBin_ok {op : BinOp} {k : IntKind} {x y : Int} {v : Value} (h : intBin op k x y = some v) (t : TypeId) (w : World) : (Go.binOp op t (.int k x) (.int k y)).run P w = .ok v w ∧ v.oneCell' = true := by
  cases op <;> simp only [intBin, Option.some.injEq, reduceCtorEq] at h
  case quo => split at h
              · cases h
              · rename_i hy; simp at h; subst h; simp [Go.binOp, Op.intDiv, hy, Value.oneCell']
  case rem => split at h
              · cases h
              · rename_i hy; simp at h; subst h; simp [Go.binOp, Op.intDiv, hy, Value.oneCell']
  all_goals (subst h; simp [Go.binOp, Op.intArith, Op.intBits, Op.intCmp, Value.oneCell'])
theorem strBin_ok {op : BinOp} {x y : ByteArray} {v : Value} (h : strBin op x y = some v) (t : TypeId) (w : World) : (Go.binOp op t (.string x) (.string y)).run P w = .ok v w ∧ v.oneCell' = true := by
  cases op <;> simp only [strBin, Option.some.injEq, reduceCtorEq] at h
  case add =>
    split at h
    · rename_i hy; simp at h; subst h
      have : ¬ (((x.size + y.size : Nat) : Int) > IntKind.i64.max) := by
        have : (IntKind.i64.max : Int) = 9223372036854775807 := by decide
        rw [this]; unfold strMost at hy; omega
      simp only [Go.binOp, Op.stringOp]
      rw [if_neg this]; exact ⟨rfl, rfl⟩
    · cases h
  all_goals (subst h; simp [Go.binOp, Op.stringOp, Value.oneCell'])
def Plain2 (u v : Value) : Prop := match u, v with
  | .nilIface, .nilIface => False
  | .agg _, .agg _ => False
  | _, _ => True
theorem eqGuard_lit {op : BinOp} {t : TypeId} {x y : Operand} {u v : Value} (h : Plain2 u v) (w : World) : (eqGuard op t x y u v).run P w = .ok () w := by
  cases op <;> first | rfl | (cases u <;> cases v <;> first | rfl | exact h.elim)
theorem boolEqIn_ok (d : Nat) {t : TypeId} (ht : P.underlying t = some .bool) (x y : Bool) (w : World) : (Op.equalIn (d + 1) t (.bool x) (.bool y)).run P w = .ok (x == y) w := by
  simp only [Op.equalIn, Sem.run_bind, run_und ht, Result.andThen_ok]
  rfl
theorem boolEq_ok {t : TypeId} (ht : P.underlying t = some .bool) (x y : Bool) (w : World) : (Op.equal t (.bool x) (.bool y)).run P w = .ok (x == y) w := boolEqIn_ok 9999 ht x y w
theorem litBin_ok {op : BinOp} {u v z : Value} (h : litBin op u v = some z) (t : TypeId) (w : World) : (Go.binOp op t u v).run P w = .ok z w ∧ z.oneCell' = true ∧ Plain2 u v := by
  unfold litBin at h
  split at h
  · split at h
    · rename_i hk; subst hk; obtain ⟨q1, q2⟩ := intBin_ok (P := P) h t w; exact ⟨q1, q2, trivial⟩
    · cases h
  · obtain ⟨q1, q2⟩ := strBin_ok (P := P) h t w; exact ⟨q1, q2, trivial⟩
  · cases h
def valsEq : List Value → List Value → Option Bool
  | [], [] => some true
  | u :: us, v :: vs => match litEq u v, valsEq us vs with
    | some p, some q => some (p && q)
    | _, _ => none
  | _, _ => none
def EqTy (P : Program) (t : TypeId) : Prop := ∀ (w : World) (us vs : Array Value) (p : Bool) (x y : Operand) (op : BinOp), valsEq us.toList vs.toList = some p →
  (eqGuard op t x y (.agg us) (.agg vs)).run P w = .ok () w ∧ (Op.equal t (.agg us) (.agg vs)).run P w = .ok p w
theorem cellsEq_ok {h : List Root} : ∀ {xs ys : List V1} {us vs : List Value} {p : Bool}, cellsEq xs ys = some p → All2 (RV1 w A σ h) xs us → All2 (RV1 w A σ h) ys vs → valsEq us vs = some p
  | [], [], us, vs, p, h1, r1, r2 => by cases r1; cases r2; exact h1
  | x :: xs, [], us, vs, p, h1, r1, r2 => by cases x <;> simp [cellsEq] at h1
  | [], y :: ys, us, vs, p, h1, r1, r2 => by simp [cellsEq] at h1
  | x :: xs, y :: ys, us, vs, p, h1, r1, r2 => by
    cases r1 with
    | cons ra rb => cases r2 with
      | cons rc rd =>
        rename_i u us v vs
        unfold cellsEq at h1
        split at h1
        · rename_i heq1 heq2; cases heq1
        · rename_i u' xs' v' ys' heq1 heq2
          cases heq1; cases heq2
          have e1 := (RC.lit_iff.1 ra).1
          have e2 := (RC.lit_iff.1 rc).1
          subst e1; subst e2
          split at h1
          · rename_i p1 q1 hp hq
            have := cellsEq_ok hq rb rd
            simp only [valsEq, hp, this]; exact h1
          · cases h1
        · cases h1
theorem binOp_ok (EO : EnvOk P E) (EQ : ∀ t, E.eqOk t = true → EqTy P t) (R : RS B K σ A S a w) {op : BinOp} {t : TypeId} {x y : Operand} {u v z : V}
    (h1 : opd E S.tmps t x = some u) (h2 : opd E S.tmps t y = some v) (h3 : binV op (isBoolT E t) (E.eqOk t) u v = some z) :
    Val P K σ A S w (do pure (.value (← (do eqGuard op t x y (a.eval x) (a.eval y); Go.binOp op t (a.eval x) (a.eval y))))) z := by
  have r1 := (opd_ok R h1).1
  have r2 := (opd_ok R h2).1
  unfold binV at h3
  split at h3
  · rename_i p q
    split at h3
    · rename_i hb
      have e1 := (RC.lit_iff.1 r1).1
      have e2 := (RC.lit_iff.1 r2).1
      have ht : P.underlying t = some .bool := by
        unfold isBoolT at hb
        split at hb
        · rename_i i hi; have := (EO.ty _ _ hi).kind; simpa [KindOk] using this
        · cases hb
      cases op <;> simp only [boolBin, Option.map_some, Option.map_none, Option.some.injEq, reduceCtorEq] at h3
      all_goals
        subst h3
        refine ⟨_, ?_, (vlit_ok (K := K) rfl).1, (vlit_ok (w := w) (A := A) (σ := σ) (h := S.heap) rfl).2⟩
        rw [e1, e2]
        simp only [Sem.run_bind, eqGuard_lit (P := P) (u := .bool p) (v := .bool q) (show Plain2 _ _ from trivial) w, Result.andThen_ok, Go.binOp, boolEq_ok ht]
        rfl
    · cases h3
  · rename_i u' v' hne
    simp only [Option.map_eq_some_iff] at h3
    obtain ⟨z', h3, rfl⟩ := h3
    have e1 := (RC.lit_iff.1 r1).1
    have e2 := (RC.lit_iff.1 r2).1
    have key := litBin_ok (P := P) h3 t w
    obtain ⟨k1, k2, k3⟩ := key
    refine ⟨_, ?_, (vlit_ok (K := K) k2).1, (vlit_ok (w := w) (A := A) (σ := σ) (h := S.heap) k2).2⟩
    rw [e1, e2]
    simp only [Sem.run_bind, eqGuard_lit (P := P) k3 w, Result.andThen_ok, k1]
    rfl
  · rename_i xs ys
    split at h3
    · rename_i he
      obtain ⟨us, e1, q1⟩ := r1
      obtain ⟨vs, e2, q2⟩ := r2
      have H := EQ t he
      cases op <;> simp only [Option.map_eq_some_iff, reduceCtorEq] at h3
      all_goals
        obtain ⟨p, hp, rfl⟩ := h3
        have hv := cellsEq_ok hp q1 q2
        refine ⟨_, ?_, (vlit_ok (K := K) rfl).1, (vlit_ok (w := w) (A := A) (σ := σ) (h := S.heap) rfl).2⟩
        rw [e1, e2]
        simp only [Sem.run_bind, (H w us vs p x y _ hv).1, Result.andThen_ok, Go.binOp, (H w us vs p x y .eql hv).2]
        rfl
    · cases h3
  · cases h3
theorem unOp_ok (R : RS B K σ A S a w) {op : UnOp} {t : TypeId} {x : Operand} {u z : V} (h1 : opd E S.tmps t x = some u) (h3 : unV op u = some z) :
    Val P K σ A S w (do pure (.value (← Op.unary op (a.eval x)))) z := by
  have r1 := (opd_ok R h1).1
  unfold unV at h3
  split at h3
  · have e1 := (RC.lit_iff.1 r1).1
    split at h3
    · simp at h3; subst h3
      refine ⟨_, ?_, (vlit_ok (K := K) rfl).1, (vlit_ok (w := w) (A := A) (σ := σ) (h := S.heap) rfl).2⟩
      rw [e1]; rfl
    · cases h3
  · have e1 := (RC.lit_iff.1 r1).1
    split at h3
    · simp at h3; subst h3
      refine ⟨_, ?_, (vlit_ok (K := K) rfl).1, (vlit_ok (w := w) (A := A) (σ := σ) (h := S.heap) rfl).2⟩
      rw [e1]; simp [Op.unary, Op.intArith]
    · cases h3
  · cases h3

theorem bytesOf_ok : ∀ {rows : List (List C)} {l : List UInt8}, bytesOf rows = some l → ∃ ns : List Int, rows = ns.map (fun n => [C.lit (.int .u8 n)]) ∧ l = ns.map fun n => UInt8.ofNat n.toNat
  | [], l, h => by simp [bytesOf] at h; subst h; exact ⟨[], rfl, rfl⟩
  | r :: rows, l, h => by
    unfold bytesOf at h
    split at h
    · rename_i heq; cases heq
    · rename_i n r' heq
      cases heq
      simp only [Option.map_eq_some_iff] at h
      obtain ⟨l', h', rfl⟩ := h
      obtain ⟨ns, e1, e2⟩ := bytesOf_ok h'
      exact ⟨n :: ns, by simp [e1], by simp [e2]⟩
    · cases h
theorem foldl_push (ns : List Int) : ∀ (b : ByteArray), ns.foldl (fun r n => r.push (UInt8.ofNat n.toNat)) b = ⟨b.data ++ (ns.map fun n => UInt8.ofNat n.toNat).toArray⟩ := by
  induction ns with
  | nil => intro b; simp
  | cons n ns ih => intro b; simp only [List.foldl_cons, ih, List.map_cons]; congr 1; simp [ByteArray.push]
theorem convBytes_ok {u : Value} {rows : List (List C)} {l : List UInt8} (h1 : SliceIs w A 1 rows u) (h2 : bytesOf rows = some l) : (Conv.bytesToString u).run P w = .ok (.string ⟨l.toArray⟩) w := by
  obtain ⟨ad, k, e, hk, hsz, hc⟩ := h1
  obtain ⟨ns, e1, e2⟩ := bytesOf_ok h2
  subst e
  have hlen : rows.length = ns.length := by rw [e1]; simp
  cases hns : ns with
  | nil =>
    subst hns
    simp at e1; subst e1
    simp at e2; subst e2
    have hl : ∀ x : Addr, (loadCells x 0).run P w = .ok #[] w := fun x => by simpa using run_loadCells_list (P := P) w x [] (by simp)
    cases ad with
    | none => rfl
    | some x =>
      have := run_bytesToString (P := P) w x 0 k [] (by simpa using hl x)
      exact this
  | cons n0 ns' =>
    have h0 : rows[0]? = some [C.lit (.int .u8 n0)] := by rw [e1, hns]; simp
    obtain ⟨b, o, v, f1, _⟩ := hc 0 _ 0 (.lit (.int .u8 n0)) h0 (by simp)
    subst f1
    have hcell : ∀ j v, (ns.map (Value.int .u8))[j]? = some v → w.cell? ((⟨b, o, none⟩ : Addr).add j) = some v := by
      intro j v hv
      simp only [List.getElem?_map, Option.map_eq_some_iff] at hv
      obtain ⟨m, hm, rfl⟩ := hv
      have hr : rows[j]? = some [C.lit (.int .u8 m)] := by rw [e1]; simp [hm]
      obtain ⟨b', o', v', g1, g2, g3⟩ := hc j _ 0 (.lit (.int .u8 m)) hr (by simp)
      cases g1
      have := (RC.lit_iff.1 g3).1
      subst this
      have hadd : (⟨b, o, none⟩ : Addr).add j = ⟨b, o + j, none⟩ := by unfold Addr.add; split <;> simp_all
      rw [hadd]; simpa using g2
    have hl := run_loadCells_list (P := P) w ⟨b, o, none⟩ (ns.map (Value.int .u8)) hcell
    rw [hlen]
    have := run_bytesToString (P := P) w ⟨b, o, none⟩ ns.length k ns (by simpa using hl)
    rw [this, foldl_push, e2]
    simp [ByteArray.empty, ByteArray.emptyWithCapacity]
    rfl
theorem conv_ok (EO : EnvOk P E) (R : RS B K σ A S a w) {src dst : TypeId} {x : Operand} {s d : TI} {v z : V} {new : List Root} {call : CallF} {start ty : Nat}
    (h : evQ E call S.tmps S.heap start ty (.convert src dst x) = some (z, new)) : new = [] ∧ Val P K σ A S w (do pure (.value (← convert src dst (a.eval x)))) z := by
  simp only [evQ] at h
  split at h
  · rename_i s d v hs hd hv
    have Ts := EO.ty _ _ hs
    have Td := EO.ty _ _ hd
    obtain ⟨ds, us, _⟩ := Ts.desc
    have r := (opd_ok R hv).1
    have kd := Td.kind
    split at h
    · rename_i k kk n hk
      simp at h; obtain ⟨rfl, rfl⟩ := h
      rw [hk] at kd
      have e := (RC.lit_iff.1 r).1
      refine ⟨rfl, _, ?_, (vlit_ok (K := K) rfl).1, (vlit_ok (w := w) (A := A) (σ := σ) (h := S.heap) rfl).2⟩
      simp only [convert, e, Sem.run_bind, run_und us, run_und kd, Result.andThen_ok]
      rfl
    · rename_i kk n hk
      simp at h; obtain ⟨rfl, rfl⟩ := h
      rw [hk] at kd
      have e := (RC.lit_iff.1 r).1
      refine ⟨rfl, _, ?_, (vlit_ok (K := K) rfl).1, (vlit_ok (w := w) (A := A) (σ := σ) (h := S.heap) rfl).2⟩
      simp only [convert, e, Sem.run_bind, run_und us, run_und kd, Result.andThen_ok]
      rfl
    · rename_i b hk
      simp at h; obtain ⟨rfl, rfl⟩ := h
      rw [hk] at kd
      have e := (RC.lit_iff.1 r).1
      refine ⟨rfl, _, ?_, (vlit_ok (K := K) rfl).1, (vlit_ok (w := w) (A := A) (σ := σ) (h := S.heap) rfl).2⟩
      simp only [convert, e, Sem.run_bind, run_und us, run_und kd, Result.andThen_ok]
      rfl
    · rename_i y hn1 hn2 hk
      rw [hk] at kd
      split at h
      · rename_i e hks
        split at h
        · rename_i ti rows he hrows
          simp only [Option.map_eq_some_iff, Prod.mk.injEq] at h
          obtain ⟨l, hl, rfl, rfl⟩ := h
          have ks := Ts.kind
          rw [hks] at ks
          have ke := (EO.ty _ _ he).kind
          have hsl := rowsOf_ok R hrows r
          have hcv := convBytes_ok (P := P) hsl hl
          obtain ⟨ad, k, eu, _⟩ := hsl
          refine ⟨rfl, _, ?_, (vlit_ok (K := K) rfl).1, (vlit_ok (w := w) (A := A) (σ := σ) (h := S.heap) rfl).2⟩
          rw [eu] at hcv ⊢
          simp only [convert, Sem.run_bind, run_und ks, run_und kd, Result.andThen_ok, run_und ke, hcv]
          rfl
        · cases h
      · cases h
    · cases h
  · cases h
end
end Go.Proofs.YtfokmnafgabdiaaGreatDoor.Eng
namespace Go.Proofs.YtfokmnafgabdiaaGreatDoor.Eng
open Go Go.RowKit
set_option linter.unusedVariables false
set_option linter.unusedSimpArgs false

section
variable {P : Program} {E : Env} {B : Base} {K : Nat → Prop} {σ : Sig} {A : Nat → Prop} {S : St} {a : Act} {w : World}

theorem addr_add (b o n : Nat) : (⟨b, o, none⟩ : Addr).add n = ⟨b, o + n, none⟩ := by unfold Addr.add; split <;> simp_all

theorem opds_ok (R : RS B K σ A S a w) : ∀ {l : List (TypeId × Operand)} {vs : List V}, opds E S.tmps l = some vs → All2 (fun v u => RV w A σ S.heap v u ∧ ∀ n ∈ v.ids, K n) vs (l.map fun p => a.eval p.2)
  | [], vs, h => by simp [opds] at h; subst h; exact .nil
  | (t, x) :: l, vs, h => by
    simp only [opds] at h
    split at h
    · rename_i v vs' h1 h2
      simp at h; subst h
      exact .cons (opd_ok R h1) (opds_ok R h2)
    · cases h
theorem makeFunc_ok (R : RS B K σ A S a w) {g : FuncId} {captured : Array Operand} {vs : List V} {ps : List Pt} (h1 : opds E S.tmps (captured.toList.map fun x => (0, x)) = some vs) (h2 : mapO ptrOf vs = some ps) (first : Array Operand) (hf : first.size = 0) :
    Val P K σ A S w (do pure (.value (← Instr.makeFunc (.func g) (first.map a.eval) (captured.map a.eval)))) (vone (.clo g ps)) := by
  have r := opds_ok R h1
  have hfe : first.map a.eval = #[] := by
    apply Array.eq_empty_of_size_eq_zero; simpa using hf
  have r2 : All2 (RPt w A σ S.heap) ps ((captured.toList.map fun x => ((0 : TypeId), x)).map fun p => a.eval p.2) := r.mapO h2 fun x y u _ hp r => (ptrOf_ok hp r.1).1
  have r3 : ∀ p ∈ ps, ∀ n ∈ p.ids, K n := by
    intro p hp n hn
    obtain ⟨j, hj⟩ := List.getElem?_of_mem hp
    obtain ⟨v, hv, hvp⟩ := mapO_get h2 hj
    obtain ⟨u, hu, r1, r2⟩ := r.get hv
    have := (ptrOf_ok hvp r1).2
    exact r2 n (by rw [this]; exact hn)
  refine ⟨_, rfl, ⟨captured.map a.eval, by rw [hfe], ?_⟩, ?_⟩
  · simpa [List.map_map, Function.comp_def] using r2
  · intro n hn
    simp only [vone, V.ids, W.ids, V1.ids, List.mem_flatMap] at hn
    obtain ⟨p, hp, hn⟩ := hn
    exact r3 p hp n hn

theorem bound_ok (R : RS B K σ A S a w) {x : Option Operand} {r : Option Int} (h : bound? E S.tmps x = some r) : (x = none ∧ r = none) ∨ ∃ y k n, x = some y ∧ r = some n ∧ a.eval y = .int k n := by
  cases x with
  | none => simp [bound?] at h; exact .inl ⟨rfl, h.symm⟩
  | some y =>
    simp only [bound?] at h
    split at h
    · rename_i v hv
      simp only [Option.map_eq_some_iff] at h
      obtain ⟨n, hn, rfl⟩ := h
      obtain ⟨k, e⟩ := intOf_ok hn (opd_ok R hv).1
      exact .inr ⟨y, k, n, rfl, rfl, e⟩
    · cases h
theorem sliceBound_ok {k : IntKind} {i : Int} {y : Nat} {code : BoundsCode} (h0 : 0 ≤ i) (h1 : i ≤ y) (w : World) : (Instr.sliceBound (.int k i) y code).run P w = .ok i.toNat w := by
  unfold Instr.sliceBound
  simp only [asIntOf, Sem.run_bind, Sem.run_pure, Result.andThen_ok]
  rw [if_pos ⟨h0, h1⟩]; rfl
theorem sliceBounds_ok {b : Bool} {len cap : Nat} {lo hi mx : Option Operand} {l r m : Option Int} {p : Nat × Nat} (hc : len ≤ cap)
    (hl : (lo = none ∧ l = none) ∨ ∃ y k n, lo = some y ∧ l = some n ∧ a.eval y = .int k n) (hr : (hi = none ∧ r = none) ∨ ∃ y k n, hi = some y ∧ r = some n ∧ a.eval y = .int k n)
    (hm : (mx = none ∧ m = none) ∨ ∃ y k n, mx = some y ∧ m = some n ∧ a.eval y = .int k n) (h : cutAt len l r m = some p) (w : World) :
    ∃ M, (Instr.sliceBounds b len cap (lo.map a.eval) (hi.map a.eval) (mx.map a.eval)).run P w = .ok (p.1, p.2, M) w ∧ p.1 ≤ p.2 ∧ p.2 ≤ len ∧ p.2 ≤ M ∧ M ≤ cap ∧ (∀ q, m = some q → M = q.toNat) ∧ (m = none → M = cap) := by
  unfold cutAt at h
  simp only at h
  split at h
  · rename_i hh
    simp only [Option.some.injEq] at h
    obtain ⟨g1, g2, g3, g4, g5⟩ := hh
    subst h
    rcases hm with ⟨rfl, rfl⟩ | ⟨ym, km, nm, rfl, rfl, em⟩
    · refine ⟨cap, ?_, ?_, ?_, ?_, Nat.le_refl _, fun q hq => by simp at hq, fun _ => rfl⟩
      · rcases hr with ⟨rfl, rfl⟩ | ⟨yr, kr, nr, rfl, rfl, er⟩ <;> rcases hl with ⟨rfl, rfl⟩ | ⟨yl, kl, nl, rfl, rfl, el⟩ <;> simp only [Option.getD_none, Option.getD_some] at g1 g2 g3 g4
        · simp [Instr.sliceBounds]
        · simp only [Instr.sliceBounds, Option.map_none, Option.map_some, el, Sem.run_bind, Sem.run_pure, Result.andThen_ok, sliceBound_ok (P := P) g1 (show nl ≤ ((len : Nat) : Int) by omega) w]
          simp
        · simp only [Instr.sliceBounds, Option.map_none, Option.map_some, er, Sem.run_bind, Sem.run_pure, Result.andThen_ok, sliceBound_ok (P := P) (show 0 ≤ nr by omega) (show nr ≤ ((cap : Nat) : Int) by omega) w]
          simp
        · simp only [Instr.sliceBounds, Option.map_none, Option.map_some, er, el, Sem.run_bind, Sem.run_pure, Result.andThen_ok, sliceBound_ok (P := P) (show 0 ≤ nr by omega) (show nr ≤ ((cap : Nat) : Int) by omega) w]
          rw [sliceBound_ok (P := P) g1 (by omega) w]
          simp
      · simp only [Option.getD_none] at g1 g2 g3 g4 ⊢; omega
      · simp only [Option.getD_none] at g1 g2 g3 g4 ⊢; omega
      · simp only [Option.getD_none] at g1 g2 g3 g4 ⊢; omega
    · rcases hr with ⟨rfl, rfl⟩ | ⟨yr, kr, nr, rfl, rfl, er⟩
      · simp at g5
      · simp only [Option.getD_some] at g1 g2 g3 g4 ⊢
        refine ⟨nm.toNat, ?_, by omega, by omega, by omega, by omega, fun q hq => by simp at hq; rw [hq], fun h => by simp at h⟩
        rcases hl with ⟨rfl, rfl⟩ | ⟨yl, kl, nl, rfl, rfl, el⟩ <;> simp only [Option.getD_none, Option.getD_some] at g1 g2 g3 g4
        · simp only [Instr.sliceBounds, Option.map_none, Option.map_some, er, em, Sem.run_bind, Sem.run_pure, Result.andThen_ok, sliceBound_ok (P := P) (show 0 ≤ nm by omega) (show nm ≤ ((cap : Nat) : Int) by omega) w]
          rw [sliceBound_ok (P := P) (show 0 ≤ nr by omega) (by omega) w]
          simp
        · simp only [Instr.sliceBounds, Option.map_none, Option.map_some, er, el, em, Sem.run_bind, Sem.run_pure, Result.andThen_ok, sliceBound_ok (P := P) (show 0 ≤ nm by omega) (show nm ≤ ((cap : Nat) : Int) by omega) w]
          rw [sliceBound_ok (P := P) (show 0 ≤ nr by omega) (by omega) w]
          simp only [Result.andThen_ok]
          rw [sliceBound_ok (P := P) (show 0 ≤ nl by omega) (by omega) w]
          simp
  · cases h

theorem sz_ok {h : List Root} {n sz : Nat} (hs : (rget h n).sz? = some sz) : ∃ rs, rget h n = .rows sz rs ∨ rget h n = .fro sz rs := by
  cases hq : rget h n with
  | dead => simp [hq, Root.sz?] at hs
  | var c => simp [hq, Root.sz?] at hs
  | rows s rs => simp [hq, Root.sz?] at hs; subst hs; exact ⟨rs, .inl rfl⟩
  | fro s rs => simp [hq, Root.sz?] at hs; subst hs; exact ⟨rs, .inr rfl⟩
theorem slice_ok (EO : EnvOk P E) (R : RS B K σ A S a w) {t : TypeId} {x : Operand} {lo hi mx : Option Operand} {z : V} {new : List Root} {call : CallF} {start ty : Nat}
    (h : evQ E call S.tmps S.heap start ty (.slice t x lo hi mx) = some (z, new)) : new = [] ∧ Val P K σ A S w (do pure (.value (← Instr.sliceAt t (a.eval x) (lo.map a.eval) (hi.map a.eval) (mx.map a.eval)))) z := by
  simp only [evQ] at h
  split at h
  · rename_i T y l r m hT hx hlo hhi hmx
    have Tt := EO.ty _ _ hT
    have kt := Tt.kind
    obtain ⟨rx, kx⟩ := opd_ok R hx
    have bl := bound_ok R hlo
    have br := bound_ok R hhi
    have bm := bound_ok R hmx
    split at h
    · rename_i hk
      rw [hk] at kt
      split at h
      · rename_i s
        split at h
        · cases h
        · rename_i hm
          simp only [Option.map_eq_some_iff, Prod.mk.injEq] at h
          obtain ⟨p, hp, rfl, rfl⟩ := h
          have em : m = none := by cases m <;> simp_all
          have emx : mx = none := by
            rcases bm with ⟨e, _⟩ | ⟨_, _, _, _, e, _⟩
            · exact e
            · rw [em] at e; cases e
          subst em
          obtain ⟨M, hb, _⟩ := sliceBounds_ok (P := P) (b := false) (cap := s.size) (Nat.le_refl _) bl br bm hp w
          have e := (RC.lit_iff.1 rx).1
          refine ⟨rfl, _, ?_, (vlit_ok (K := K) rfl).1, (vlit_ok (w := w) (A := A) (σ := σ) (h := S.heap) rfl).2⟩
          rw [emx] at hb ⊢
          simp only [Option.map_none] at hb ⊢
          simp only [Instr.sliceAt, Sem.run_bind, run_und kt, Result.andThen_ok, Instr.slice, e, Option.isSome_none, Bool.false_eq_true, if_false, hb]
          rfl
      · cases h
    · rename_i e hk
      rw [hk] at kt
      split at h
      · rename_i j hj
        have Te := EO.ty _ _ hj
        have hsz := Te.size w
        split at h
        · rename_i sz rows
          split at h
          · rename_i hszj
            simp only [Option.map_eq_some_iff, Prod.mk.injEq] at h
            obtain ⟨p, hp, rfl, rfl⟩ := h
            obtain ⟨ad, cap, e1, e2, e3, e4⟩ := RC.ro rx
            obtain ⟨M, hb, g1, g2, g3, g4, _, _⟩ := sliceBounds_ok (P := P) (b := true) e2 bl br bm hp w
            have hlen : ((rows.drop p.1).take (p.2 - p.1)).length = p.2 - p.1 := by simp; omega
            refine ⟨rfl, .slice (if M = p.1 then ad else ad.map (·.add (p.1 * j.size))) (p.2 - p.1) (M - p.1), ?_, ?_, by simp [vone, V.ids, W.ids, V1.ids]⟩
            · simp only [Instr.sliceAt, Sem.run_bind, run_und kt, Result.andThen_ok, Instr.slice, e1, hb, hsz]
              rfl
            · show RC w A _ _
              have := RC.mk_ro (w := w) (A := A) (sz := sz) (rows := (rows.drop p.1).take (p.2 - p.1)) (a := if M = p.1 then ad else ad.map (·.add (p.1 * j.size))) (cap := M - p.1) (by rw [hlen]; omega)
                (fun r hr => e3 r (List.mem_of_mem_drop (List.mem_of_mem_take hr))) (fun i r q c hi hq => by
                  obtain ⟨hi', hil⟩ := get_view hi
                  obtain ⟨b, o, v, f1, f2, f3, f4⟩ := e4 (p.1 + i) r q c hi' hq
                  refine ⟨b, o + p.1 * sz, v, ?_, f2, ?_, f4⟩
                  · rw [if_neg (by omega), f1]; simp only [Option.map_some, addr_add, hszj]
                  · rw [show o + p.1 * sz + i * sz + q = o + (p.1 + i) * sz + q from by rw [Nat.add_mul]; omega]; exact f3)
              rwa [hlen] at this
          · cases h
        · rename_i sz
          simp only [Option.map_eq_some_iff, Prod.mk.injEq] at h
          obtain ⟨p, hp, rfl, rfl⟩ := h
          have e1 : a.eval x = .slice none 0 0 := rx
          obtain ⟨M, hb, g1, g2, g3, g4, _, _⟩ := sliceBounds_ok (P := P) (b := true) (Nat.le_refl 0) bl br bm hp w
          refine ⟨rfl, .slice none 0 0, ?_, rfl, by simp [vone, V.ids, W.ids, V1.ids]⟩
          simp only [Instr.sliceAt, Sem.run_bind, run_und kt, Result.andThen_ok, Instr.slice, e1, hb, hsz]
          have hM : M = 0 := by omega
          have hp1 : p.1 = 0 := by omega
          have hp2 : p.2 = 0 := by omega
          rw [hM, hp1, hp2]; rfl
        · rename_i n off len cap
          split at h
          · rename_i sz hs
            split at h
            · rename_i hszj
              simp only [Option.map_eq_some_iff, Prod.mk.injEq] at h
              obtain ⟨p, hp, rfl, rfl⟩ := h
              obtain ⟨rs, hq⟩ := sz_ok hs
              have rr : RRef w σ S.heap n off len cap (a.eval x) := rx
              obtain ⟨f0, ad, k, e1, e2, e3, e4⟩ := rr.2 sz rs hq
              obtain ⟨M, hb, g1, g2, g3, g4, g5, g6⟩ := sliceBounds_ok (P := P) (b := true) e2 bl br bm hp w
              refine ⟨rfl, .slice (if M = p.1 then ad else ad.map (·.add (p.1 * j.size))) (p.2 - p.1) (M - p.1), ?_, ?_, ?_⟩
              · simp only [Instr.sliceAt, Sem.run_bind, run_und kt, Result.andThen_ok, Instr.slice, e1, hb, hsz]
                rfl
              · refine ⟨rfl, fun sz' rs' hq' => ?_⟩
                have : sz' = sz ∧ rs' = rs := by
                  rcases hq with hq | hq <;> rcases hq' with hq' | hq' <;> rw [hq] at hq' <;> cases hq' <;> exact ⟨rfl, rfl⟩
                obtain ⟨rfl, rfl⟩ := this
                refine ⟨by omega, _, _, rfl, by omega, fun c hc => ?_, ?_⟩
                · cases m with
                  | none =>
                    simp only [Option.map_eq_some_iff] at hc
                    obtain ⟨c', hc', rfl⟩ := hc
                    rw [g6 rfl, e3 c' hc']
                  | some q => simp at hc; rw [g5 q rfl]; exact hc
                · by_cases hM : M = p.1
                  · exact .inl (by omega)
                  · rcases e4 with e4 | ⟨b, o, q1, q2, q3⟩
                    · exact .inl (by omega)
                    · refine .inr ⟨b, o, q1, ?_, fun hrow => ?_⟩
                      · rw [if_neg hM, q2]; simp only [Option.map_some, addr_add, ← hszj]; rw [Nat.add_mul, Nat.add_assoc]
                      · obtain ⟨arr, T', f, r1, r2⟩ := q3 hrow
                        refine ⟨arr, T', f, r1, Nat.le_trans ?_ r2⟩
                        have h5 : (off + p.1) * sz' + (M - p.1) * sz' = off * sz' + M * sz' := by
                          rw [← Nat.add_mul, ← Nat.add_mul]; congr 1; omega
                        have h6 : M * sz' ≤ k * sz' := Nat.mul_le_mul_right _ g4
                        omega
              · intro q hq'; simp only [vone, V.ids, W.ids, V1.ids, List.mem_singleton] at hq'; subst hq'
                exact kx q (by simp [V.ids, W.ids, V1.ids])
            · cases h
          · cases h
        · cases h
      · cases h
    · cases h
  · cases h
end
end Go.Proofs.YtfokmnafgabdiaaGreatDoor.Eng
namespace Go.Proofs.YtfokmnafgabdiaaGreatDoor.Eng
open Go Go.RowKit
set_option linter.unusedVariables false
set_option linter.unusedSimpArgs false

section
variable {P : Program} {E : Env} {B : Base} {K : Nat → Prop} {σ : Sig} {A : Nat → Prop} {S : St} {a : Act} {w : World}

theorem field_at {i : TI} {t : TypeId} {f : Nat} {off : Nat} {u : TypeId} (T : TyOk P t i) (h : fieldOf i f = some (off, u)) : ∃ (F : Array Field) (x : Field), P.underlying t = some (.struct F) ∧ F[f]? = some x ∧ x.offset = off ∧ x.type = u := by
  have k := T.kind
  unfold fieldOf at h
  split at h
  · rename_i fs hk
    rw [hk] at k
    obtain ⟨F, e, e2⟩ := k
    rw [← e2, List.getElem?_map, Option.map_eq_some_iff] at h
    obtain ⟨x, hx, hxe⟩ := h
    cases hxe
    exact ⟨F, x, e, by simpa using hx, rfl, rfl⟩
  · cases h
theorem fieldAddr_ok (EO : EnvOk P E) (R : RS B K σ A S a w) {t : TypeId} {x : Operand} {f : Nat} {z : V} {new : List Root} {call : CallF} {start ty : Nat}
    (h : evQ E call S.tmps S.heap start ty (.fieldAddr t x f) = some (z, new)) : new = [] ∧ Val P K σ A S w (do pure (.value (← Instr.fieldAt t (a.eval x) f))) z := by
  simp only [evQ] at h
  split at h
  · rename_i i p hi hp
    simp only [Option.bind_eq_some_iff] at hp
    obtain ⟨v0, h0, hp⟩ := hp
    obtain ⟨r0, k0⟩ := opd_ok R h0
    obtain ⟨r1, ids1⟩ := ptrOf_ok hp r0
    have T := EO.ty _ _ hi
    split at h
    · rename_i off u hf
      obtain ⟨F, fl, e1, e2, e3, e4⟩ := field_at T hf
      split at h
      · rename_i j hj
        split at h
        · cases h
        · rename_i hne
          have hsz := (EO.ty _ _ hj).size w
          have hrun : ∀ (b o : Nat), a.eval x = .pointer (some ⟨b, o, none⟩) → (do pure (Next.value (← Instr.fieldAt t (a.eval x) f)) : Sem Next).run P w = .ok (.value (.pointer (some ⟨b, o + off, none⟩))) w := by
            intro b o e
            simp only [Instr.fieldAt, Sem.run_bind, run_und e1, Result.andThen_ok, e2, e, Instr.sureAddr, Sem.run_pure, fieldPlace]
            rw [e4, hsz]
            simp only [Result.andThen_ok]
            rw [if_neg hne, e3, addr_add]
            simp only [Sem.run_pure, Result.andThen_ok]
          split at h
          · rename_i cells
            simp at h; obtain ⟨rfl, rfl⟩ := h
            obtain ⟨b, o, e, hc⟩ := r1
            refine ⟨rfl, _, hrun b o e, ⟨b, o + off, rfl, fun m c hm => ?_⟩, by simp [vone, V.ids, W.ids, V1.ids, Pt.ids]⟩
            rw [List.getElem?_drop] at hm
            obtain ⟨ha, v, hv, rc⟩ := hc (off + m) c hm
            exact ⟨ha, v, by rw [show o + off + m = o + (off + m) from by omega]; exact hv, rc⟩
          · rename_i n k j'
            simp at h; obtain ⟨rfl, rfl⟩ := h
            obtain ⟨hone, hv, hr⟩ := r1
            have hK : K n := k0 n (by rw [ids1]; simp [Pt.ids])
            have hids : ∀ q ∈ (vone (.pt (.ptr n k (j' + off)))).ids, K q := by
              intro q hq; simp only [vone, V.ids, W.ids, V1.ids, Pt.ids, List.mem_singleton] at hq; subst hq; exact hK
            have hroot := R.heap.root n
            obtain ⟨b, o, e⟩ := hone
            refine ⟨rfl, _, hrun b o e, ⟨⟨_, _, rfl⟩, fun cells hc => ?_, fun sz rs hc => ?_⟩, hids⟩
            · obtain ⟨b', o', s1, s2⟩ := hv cells hc
              rw [e] at s2; cases s2
              exact ⟨_, o', s1, by simp [Nat.add_assoc]⟩
            · obtain ⟨b', o', s1, s2⟩ := hr sz rs hc
              rw [e] at s2; cases s2
              exact ⟨_, o', s1, by simp [Nat.add_assoc]⟩
      · cases h
    · cases h
  · cases h

theorem part_ok {j : TI} {u : TypeId} {cs : List V1} {us : Array Value} {off : Nat} {v : V} {h : List Root} (T : TyOk P u j) (r : All2 (RV1 w A σ h) cs us.toList) (h1 : asType j cs off = some v) :
    ∃ q, (part u us off).run P w = .ok q w ∧ RV w A σ h v q ∧ ∀ n ∈ v.ids, n ∈ cs.flatMap V1.ids := by
  obtain ⟨hl, h6, h7⟩ := asType_ok h1 r
  by_cases ha : j.isAgg = true
  · rw [if_pos ha] at h6
    refine ⟨_, ?_, h6, h7⟩
    simp only [part, Sem.run_bind, T.agg, ha, Result.andThen_ok, if_true, T.size, Sem.run_pure]
    congr 2
    apply Array.ext'
    simp [Array.toList_extract, List.extract, Nat.add_sub_cancel_left]
  · rw [if_neg ha] at h6
    obtain ⟨q, hq, r⟩ := h6
    refine ⟨q, ?_, r, h7⟩
    have hf : j.isAgg = false := by simpa using ha
    have hcell : us[off]? = some q := by
      have := congrArg (·[0]?) hq
      simp [List.getElem?_take, List.getElem?_drop] at this
      exact this.2
    simp only [part, Sem.run_bind, T.agg, hf, Result.andThen_ok, Bool.false_eq_true, if_false, hcell]
    rfl
theorem field_ok (EO : EnvOk P E) (R : RS B K σ A S a w) {t : TypeId} {x : Operand} {f : Nat} {z : V} {new : List Root} {call : CallF} {start ty : Nat}
    (h : evQ E call S.tmps S.heap start ty (.field t x f) = some (z, new)) : new = [] ∧ Val P K σ A S w (do pure (.value (← Instr.field t (a.eval x) f))) z := by
  simp only [evQ] at h
  split at h
  · rename_i i cs hi hx
    obtain ⟨r0, k0⟩ := opd_ok R hx
    have T := EO.ty _ _ hi
    split at h
    · rename_i off u hf
      obtain ⟨F, fl, e1, e2, e3, e4⟩ := field_at T hf
      split at h
      · rename_i j hj
        simp only [Option.map_eq_some_iff, Prod.mk.injEq] at h
        obtain ⟨v, hv, rfl, rfl⟩ := h
        obtain ⟨us, e, r1⟩ := r0
        obtain ⟨q, hq, rq, hid⟩ := part_ok (w := w) (EO.ty _ _ hj) r1 hv
        refine ⟨rfl, q, ?_, rq, fun n hn => k0 n (by simpa [V.ids, W.ids] using hid n hn)⟩
        simp only [Instr.field, Sem.run_bind, run_und e1, Result.andThen_ok, e2, e, asAgg, Sem.run_pure, e3, e4, hq]
      · cases h
    · cases h
  · cases h
theorem indexAddr_ok (EO : EnvOk P E) (R : RS B K σ A S a w) {t : TypeId} {x ix : Operand} {z : V} {new : List Root} {call : CallF} {start ty : Nat}
    (h : evQ E call S.tmps S.heap start ty (.indexAddr t x ix) = some (z, new)) : new = [] ∧ Val P K σ A S w (do pure (.value (← Instr.indexAt t (a.eval x) (a.eval ix)))) z := by
  simp only [evQ] at h
  split at h
  · rename_i e zs zb zz y i hi hx hix
    simp only [Option.bind_eq_some_iff] at hix
    obtain ⟨v0, h0, hix⟩ := hix
    obtain ⟨k, ek⟩ := intOf_ok hix (opd_ok R h0).1
    obtain ⟨r0, k0⟩ := opd_ok R hx
    have kt : P.underlying t = some (.slice e) := (EO.ty _ _ hi).kind
    split at h
    · rename_i j hj
      have hsz := (EO.ty _ _ hj).size w
      have hrun : ∀ (b o len cap : Nat), a.eval x = .slice (some ⟨b, o, none⟩) len cap → 0 ≤ i → i < len → (do pure (Next.value (← Instr.indexAt t (a.eval x) (a.eval ix))) : Sem Next).run P w = .ok (.value (.pointer (some ⟨b, o + i.toNat * j.size, none⟩))) w := by
        intro b o len cap ex h1 h2
        simp only [Instr.indexAt, ek, ex, asIntOf, Sem.run_bind, Sem.run_pure, Result.andThen_ok, run_und kt]
        rw [if_pos ⟨h1, h2⟩]
        simp only [Sem.run_bind, hsz, Result.andThen_ok, Sem.run_pure, addr_add]
      split at h
      · rename_i sz rows
        split at h
        · rename_i hc
          simp only [Option.map_eq_some_iff, Prod.mk.injEq] at h
          obtain ⟨row, hrow, rfl, rfl⟩ := h
          obtain ⟨ad, cap, e1, e2, e3, e4⟩ := RC.ro r0
          have hlt : i.toNat < rows.length := by
            rcases Nat.lt_or_ge i.toNat rows.length with h | h
            · exact h
            · simp [List.getElem?_eq_none h] at hrow
          have hr : row.length = sz := e3 row (List.mem_of_getElem? hrow)
          cases row with
          | nil => simp at hr; omega
          | cons c0 row =>
            obtain ⟨b, o, v, f1, f2, f3, f4⟩ := e4 i.toNat _ 0 c0 hrow (by simp)
            refine ⟨rfl, _, hrun b o rows.length cap (by rw [e1, f1]) hc.2.1 (by omega), ⟨b, o + i.toNat * j.size, rfl, fun m c hm => ?_⟩, by simp [vone, V.ids, W.ids, V1.ids, Pt.ids]⟩
            obtain ⟨b', o', v', g1, g2, g3, g4⟩ := e4 i.toNat _ m c hrow hm
            rw [f1] at g1; cases g1
            exact ⟨g2, v', by rw [← hc.1]; exact g3, g4⟩
        · cases h
      · rename_i n off len cap
        split at h
        · rename_i sz hs
          split at h
          · rename_i hc
            simp at h; obtain ⟨rfl, rfl⟩ := h
            obtain ⟨rs, hq⟩ := sz_ok hs
            have rr : RRef w σ S.heap n off len cap (a.eval x) := r0
            obtain ⟨f0, ad, k', e1, e2, e3, e4⟩ := rr.2 sz rs hq
            rcases e4 with e4 | ⟨b, o, q1, q2, q3⟩
            · omega
            · refine ⟨rfl, _, hrun b (o + off * sz) len k' (by rw [e1, q2]) hc.2.1 hc.2.2, ⟨⟨_, _, rfl⟩, fun cells hcell => ?_, fun sz' rs' hq' => ?_⟩, ?_⟩
              · rcases hq with hq | hq <;> rw [hq] at hcell <;> cases hcell
              · have : sz' = sz := by
                  rcases hq with hq | hq <;> rcases hq' with hq' | hq' <;> rw [hq] at hq' <;> cases hq' <;> rfl
                subst this
                exact ⟨b, o, q1, by rw [← hc.1]; simp [Nat.add_mul, Nat.add_assoc]⟩
              · intro m hm; simp only [vone, V.ids, W.ids, V1.ids, Pt.ids, List.mem_singleton] at hm; subst hm
                exact k0 m (by simp [V.ids, W.ids, V1.ids])
          · cases h
        · cases h
      · cases h
    · cases h
  · cases h
theorem index_ok (EO : EnvOk P E) (R : RS B K σ A S a w) {t : TypeId} {x ix : Operand} {z : V} {new : List Root} {call : CallF} {start ty : Nat}
    (h : evQ E call S.tmps S.heap start ty (.index t x ix) = some (z, new)) : new = [] ∧ Val P K σ A S w (do pure (.value (← Instr.index t (a.eval x) (a.eval ix)))) z := by
  simp only [evQ] at h
  split at h
  · rename_i zs zb zz s i hi hx hix
    simp only [Option.bind_eq_some_iff] at hix
    obtain ⟨v0, h0, hix⟩ := hix
    obtain ⟨k, ek⟩ := intOf_ok hix (opd_ok R h0).1
    obtain ⟨r0, k0⟩ := opd_ok R hx
    have kt : P.underlying t = some .string := (EO.ty _ _ hi).kind
    split at h
    · rename_i hpos
      simp only [Option.map_eq_some_iff, Prod.mk.injEq] at h
      obtain ⟨b, hb, rfl, rfl⟩ := h
      have e := (RC.lit_iff.1 r0).1
      refine ⟨rfl, _, ?_, (vlit_ok (K := K) rfl).1, (vlit_ok (w := w) (A := A) (σ := σ) (h := S.heap) rfl).2⟩
      have hs : s[i.toNat]? = some b := by
        rw [Array.getElem?_toList] at hb
        exact hb
      simp only [Instr.index, ek, e, asIntOf, Sem.run_bind, Sem.run_pure, Result.andThen_ok, run_und kt]
      rw [if_pos hpos, hs]
      simp only [Sem.run_pure, Result.andThen_ok]
    · cases h
  · cases h
theorem nilCheck_ok (R : RS B K σ A S a w) {x : Operand} {z : V} {new : List Root} {call : CallF} {start ty : Nat} {o : Oper} (ho : o.op = .nilCheck x)
    (h : evQ E call S.tmps S.heap start ty (.nilCheck x) = some (z, new)) : new = [] ∧ Val P K σ A S w (execOp a.eval o) z := by
  simp only [evQ] at h
  split at h
  · rename_i p hp
    simp at h; obtain ⟨rfl, rfl⟩ := h
    obtain ⟨r0, k0⟩ := opd_ok R hp
    have e : ∃ b o, a.eval x = .pointer (some ⟨b, o, none⟩) := by
      cases p with
      | ptr n i j => exact r0.1
      | rp cells => obtain ⟨b, o, e, _⟩ := (show RPt w A σ S.heap (.rp cells) (a.eval x) from r0); exact ⟨b, o, e⟩
    obtain ⟨b, o', e⟩ := e
    refine ⟨rfl, a.eval x, ?_, r0, k0⟩
    simp only [execOp, ho, e]; rfl
  · rename_i g caps hp
    simp at h; obtain ⟨rfl, rfl⟩ := h
    obtain ⟨r0, k0⟩ := opd_ok R hp
    refine ⟨rfl, a.eval x, ?_, r0, k0⟩
    obtain ⟨us, e, _⟩ := r0
    simp only [execOp, ho, e]; rfl
  · cases h
theorem extract_ok (R : RS B K σ A S a w) {x : Operand} {i : Nat} {z : V} {new : List Root} {call : CallF} {start ty : Nat}
    (h : evQ E call S.tmps S.heap start ty (.extract x i) = some (z, new)) : new = [] ∧ Val P K σ A S w (do pure (.value (← Instr.extract (a.eval x) i))) z := by
  simp only [evQ] at h
  split at h
  · rename_i xs hx
    obtain ⟨r0, k0⟩ := opd_ok R hx
    simp only [Option.map_eq_some_iff, Prod.mk.injEq] at h
    obtain ⟨y, hy, rfl, rfl⟩ := h
    obtain ⟨us, e, r1⟩ := r0
    obtain ⟨u, hu, r2⟩ := r1.get hy
    refine ⟨rfl, u, ?_, r2, fun n hn => k0 n (by simp only [V.ids, List.mem_flatMap]; exact ⟨y, List.mem_of_getElem? hy, hn⟩)⟩
    rw [Array.getElem?_toList] at hu
    simp only [Instr.extract, e, hu, Sem.run_bind, Sem.run_pure, Result.andThen_ok]
  · cases h
end
end Go.Proofs.YtfokmnafgabdiaaGreatDoor.Eng
namespace Go.Proofs.YtfokmnafgabdiaaGreatDoor.Eng
open Go Go.RowKit
set_option linter.unusedVariables false
set_option linter.unusedSimpArgs false

section
variable {P : Program} {E : Env} {B : Base} {K : Nat → Prop} {σ : Sig} {A : Nat → Prop} {S : St} {a : Act} {w : World}

theorem exec_builtin {o : Oper} {c : Call} {b : Builtin} (ho : o.op = .call c) (hc : c.callee = .builtin b) :
    execOp a.eval o = builtin b c.argTypes o.type (c.args.map fun | .const _ => true | _ => false) (c.args.map a.eval) := by
  simp only [execOp, ho, resolve, hc]
  rfl
theorem args1 {c : Call} {x : Operand} (h : c.args.toList = [x]) : c.args.map a.eval = #[a.eval x] := by
  have : c.args = #[x] := by apply Array.ext'; simpa using h
  rw [this]; simp
theorem args2 {c : Call} {x y : Operand} (h : c.args.toList = [x, y]) : c.args.map a.eval = #[a.eval x, a.eval y] := by
  have : c.args = #[x, y] := by apply Array.ext'; simpa using h
  rw [this]; simp
theorem types1 {c : Call} {x : TypeId} (h : c.argTypes.toList = [x]) : c.argTypes = #[x] := by
  apply Array.ext'; simpa using h
theorem types2 {c : Call} {x y : TypeId} (h : c.argTypes.toList = [x, y]) : c.argTypes = #[x, y] := by
  apply Array.ext'; simpa using h

theorem len_ok (EO : EnvOk P E) (R : RS B K σ A S a w) {o : Oper} {c : Call} {z : V} {new : List Root} {call : CallF} {start ty : Nat} (ho : o.op = .call c) (hc : c.callee = .builtin .len)
    (h : evQ E call S.tmps S.heap start ty (.call c) = some (z, new)) : new = [] ∧ Val P K σ A S w (execOp a.eval o) z := by
  simp only [evQ, hc] at h
  split at h
  · rename_i x t hx ht
    split at h
    · rename_i T y hT hv
      have kt := (EO.ty _ _ hT).kind
      obtain ⟨r0, k0⟩ := opd_ok R hv
      rw [exec_builtin ho hc, args1 hx, types1 ht]
      split at h
      · rename_i s hk
        rw [hk] at kt
        simp at h; obtain ⟨rfl, rfl⟩ := h
        have e := (RC.lit_iff.1 r0).1
        refine ⟨rfl, _, ?_, (vlit_ok (K := K) rfl).1, (vlit_ok (w := w) (A := A) (σ := σ) (h := S.heap) rfl).2⟩
        simp only [builtin, Builtin.len_, e, Sem.run_bind, run_und kt, Result.andThen_ok]
        simp [run_und kt, goInt]
      · rename_i e y' hk
        rw [hk] at kt
        simp only [Option.map_eq_some_iff, Prod.mk.injEq] at h
        obtain ⟨p, hp, rfl, rfl⟩ := h
        obtain ⟨ad, k, eu, _⟩ := rowsOf_ok R hp r0
        refine ⟨rfl, _, ?_, (vlit_ok (K := K) rfl).1, (vlit_ok (w := w) (A := A) (σ := σ) (h := S.heap) rfl).2⟩
        simp only [builtin, Builtin.len_, eu, Sem.run_bind, Result.andThen_ok]
        simp [run_und kt, goInt]
      · cases h
    · cases h
  · cases h
theorem cap_ok (EO : EnvOk P E) (R : RS B K σ A S a w) {o : Oper} {c : Call} {z : V} {new : List Root} {call : CallF} {start ty : Nat} (ho : o.op = .call c) (hc : c.callee = .builtin .cap)
    (h : evQ E call S.tmps S.heap start ty (.call c) = some (z, new)) : new = [] ∧ Val P K σ A S w (execOp a.eval o) z := by
  simp only [evQ, hc] at h
  split at h
  · rename_i x t hx ht
    split at h
    · rename_i e zs zb zz n off len k hT hv
      have kt : P.underlying t = some (.slice e) := (EO.ty _ _ hT).kind
      obtain ⟨r0, k0⟩ := opd_ok R hv
      rw [exec_builtin ho hc, args1 hx, types1 ht]
      split at h
      · rename_i sz hs
        simp at h; obtain ⟨rfl, rfl⟩ := h
        obtain ⟨rs, hq⟩ := sz_ok hs
        have rr : RRef w σ S.heap n off len (some k) (a.eval x) := r0
        obtain ⟨f0, ad, k', e1, e2, e3, e4⟩ := rr.2 sz rs hq
        have := e3 k rfl
        subst this
        refine ⟨rfl, _, ?_, (vlit_ok (K := K) rfl).1, (vlit_ok (w := w) (A := A) (σ := σ) (h := S.heap) rfl).2⟩
        simp only [builtin, Builtin.cap_, e1, Sem.run_bind, Result.andThen_ok]
        simp [run_und kt, goInt]
      · cases h
    · cases h
  · cases h
theorem max_ok (R : RS B K σ A S a w) {o : Oper} {c : Call} {z : V} {new : List Root} {call : CallF} {start ty : Nat} (ho : o.op = .call c) (hc : c.callee = .builtin .max)
    (h : evQ E call S.tmps S.heap start ty (.call c) = some (z, new)) : new = [] ∧ Val P K σ A S w (execOp a.eval o) z := by
  simp only [evQ, hc] at h
  split at h
  · rename_i x y hx
    split at h
    · rename_i k m k' n hu hv
      rw [exec_builtin ho hc, args2 hx]
      simp at h; obtain ⟨rfl, rfl⟩ := h
      have e1 := (RC.lit_iff.1 (opd_ok R hu).1).1
      have e2 := (RC.lit_iff.1 (opd_ok R hv).1).1
      refine ⟨rfl, _, ?_, (vlit_ok (K := K) rfl).1, (vlit_ok (w := w) (A := A) (σ := σ) (h := S.heap) rfl).2⟩
      simp only [builtin, Builtin.max_, e1, e2]
      rfl
    · cases h
  · cases h
theorem min_ok (R : RS B K σ A S a w) {o : Oper} {c : Call} {z : V} {new : List Root} {call : CallF} {start ty : Nat} (ho : o.op = .call c) (hc : c.callee = .builtin .min)
    (h : evQ E call S.tmps S.heap start ty (.call c) = some (z, new)) : new = [] ∧ Val P K σ A S w (execOp a.eval o) z := by
  simp only [evQ, hc] at h
  split at h
  · rename_i x y hx
    split at h
    · rename_i k m k' n hu hv
      rw [exec_builtin ho hc, args2 hx]
      simp at h; obtain ⟨rfl, rfl⟩ := h
      have e1 := (RC.lit_iff.1 (opd_ok R hu).1).1
      have e2 := (RC.lit_iff.1 (opd_ok R hv).1).1
      refine ⟨rfl, _, ?_, (vlit_ok (K := K) rfl).1, (vlit_ok (w := w) (A := A) (σ := σ) (h := S.heap) rfl).2⟩
      simp only [builtin, Builtin.min_, e1, e2]
      rfl
    · cases h
  · cases h

theorem foldl_sets (off : Nat) : ∀ (l : List Value) (k : Nat) (cs : Array Value), off + k + l.length ≤ cs.size →
    ((l.zipIdx k).foldl (fun cs (p : Value × Nat) => cs.setIfInBounds (off + p.2) p.1) cs).toList = cs.toList.take (off + k) ++ l ++ cs.toList.drop (off + k + l.length)
  | [], k, cs, h => by simp
  | v :: l, k, cs, h => by
    simp only [List.length_cons] at h
    rw [List.zipIdx_cons, List.foldl_cons, foldl_sets off l (k + 1) _ (by simp; omega)]
    simp only [Array.toList_setIfInBounds, List.length_cons]
    have hl : off + k < cs.toList.length := by simp; omega
    apply List.ext_getElem?
    intro j
    simp only [List.getElem?_append, List.length_append, List.length_take, List.length_set, List.getElem?_take, List.getElem?_drop, List.getElem?_set, List.getElem?_cons, List.length_cons]
    have hs : cs.toList.length = cs.size := by simp
    by_cases h1 : j < off + k
    · rw [if_pos (by omega), if_pos (by omega), if_pos (by omega), if_neg (by omega), if_pos (by omega), if_pos (by omega), if_pos h1]
    · by_cases h2 : j = off + k
      · subst h2
        rw [if_pos (by omega), if_pos (by omega), if_pos (by omega), if_pos rfl, if_pos (by omega), if_pos (by omega), if_neg (by omega), if_pos (by omega)]
      · by_cases h3 : j < off + k + 1 + l.length
        · rw [if_pos (by omega), if_neg (by omega), if_pos (by omega), if_neg (by omega), if_neg (by omega)]
          congr 1; omega
        · rw [if_neg (by omega), if_neg (by omega), if_neg (by omega)]
          congr 1; omega
theorem splice_ok {cells cells' xs : List V1} {off : Nat} {us vs : List Value} {h : List Root} (h1 : splice cells off xs = some cells') (r : All2 (RV1 w A σ h) cells us) (q : All2 (RV1 w A σ h) xs vs) :
    All2 (RV1 w A σ h) cells' (us.take off ++ vs ++ us.drop (off + vs.length)) ∧ off + vs.length ≤ us.length := by
  unfold splice at h1
  split at h1
  · rename_i hl
    simp at h1; subst h1
    have e1 := r.length; have e2 := q.length
    refine ⟨?_, by omega⟩
    rw [e2, List.append_assoc]
    exact (r.take off).append (q.append (r.drop _))
  · cases h1
theorem splice_mem {α : Type} {cells cells' xs : List α} {off : Nat} (h1 : splice cells off xs = some cells') {y : α} (hy : y ∈ cells') : y ∈ cells ∨ y ∈ xs := by
  unfold splice at h1
  split at h1
  · simp at h1; subst h1
    simp only [List.mem_append] at hy
    rcases hy with (hy | hy | hy)
    · exact .inl (List.mem_of_mem_take hy)
    · exact .inr hy
    · exact .inl (List.mem_of_mem_drop hy)
  · cases h1
theorem fill_ok (EO : EnvOk P E) {i : TI} {t : TypeId} (T : TyOk P t i) {F : Array Field} {places : List (Nat × Nat)} (hF : P.underlying t = some (.struct F))
    (hp : ∀ (f : Nat) (x : Field), F[f]? = some x → ∃ d, P.info? x.type = some d ∧ places[f]? = some (x.offset, d.size)) {h : List Root} :
    ∀ {parts : List (Nat × V)} {us : List (Nat × Value)} {cells cells' : List V1} {arr : Array Value}, fillParts E i cells parts = some cells' →
      All2 (fun p q => p.1 = q.1 ∧ RV w A σ h p.2 q.2 ∧ ∀ n ∈ p.2.ids, K n) parts us → All2 (RV1 w A σ h) cells arr.toList → (∀ n ∈ cells.flatMap V1.ids, K n) →
      ∃ arr', Instr.fill (fun x => places[x]?) arr us = some arr' ∧ All2 (RV1 w A σ h) cells' arr'.toList ∧ ∀ n ∈ cells'.flatMap V1.ids, K n
  | [], us, cells, cells', arr, h1, r, q, hk => by
    cases r
    simp [fillParts] at h1; subst h1
    exact ⟨arr, rfl, q, hk⟩
  | (f, v) :: parts, us, cells, cells', arr, h1, r, q, hk => by
    cases r with
    | cons r0 r =>
      rename_i u us
      obtain ⟨e0, rv, kv⟩ := r0
      simp only [fillParts] at h1
      split at h1
      · rename_i off u' xs hf hxs
        obtain ⟨F', fl, e1, e2, e3, e4⟩ := field_at T hf
        rw [hF] at e1; cases e1
        split at h1
        · rename_i j hj
          split at h1
          · rename_i hlen
            split at h1
            · rename_i cells2 hsp
              obtain ⟨d, hd, hpl⟩ := hp f fl e2
              obtain ⟨d', hd', hs', _⟩ := (EO.ty _ _ hj).info
              rw [e4] at hd; rw [hd] at hd'; cases hd'
              obtain ⟨rx, kx⟩ := vcells_ok hxs rv
              have hvs : u.2.cells.size = xs.length := by have := rx.length; simpa using this
              obtain ⟨r2, hle⟩ := splice_ok hsp q rx
              have hle' : off + u.2.cells.size ≤ arr.size := by simpa using hle
              have harr : All2 (RV1 w A σ h) cells2 (u.2.cells.zipIdx.foldl (fun cs (p : Value × Nat) => cs.setIfInBounds (off + p.2) p.1) arr).toList := by
                rw [← Array.foldl_toList, Array.toList_zipIdx, foldl_sets off _ 0 arr (by simpa using hle')]
                simpa using r2
              have hk2 : ∀ n ∈ cells2.flatMap V1.ids, K n := by
                intro n hn
                simp only [List.mem_flatMap] at hn
                obtain ⟨y, hy, hn⟩ := hn
                rcases splice_mem hsp hy with hy | hy
                · exact hk n (by simp only [List.mem_flatMap]; exact ⟨y, hy, hn⟩)
                · exact kv n (kx n (by simp only [List.mem_flatMap]; exact ⟨y, hy, hn⟩))
              obtain ⟨arr', g1, g2, g3⟩ := fill_ok EO T hF hp h1 r harr hk2
              refine ⟨arr', ?_, g2, g3⟩
              obtain ⟨u1, u2⟩ := u
              simp only at e0 hvs hle' g1
              subst e0
              simp only [Instr.fill, hpl, e3]
              rw [if_neg (by simp; omega)]
              exact g1
            · cases h1
          · cases h1
        · cases h1
      · cases h1
theorem places_ok {P : Program} : ∀ (l : List Field), (∀ f ∈ l, (P.info? f.type).isSome = true) → ∃ places, l.mapM (fun f => (P.info? f.type).map fun i => (f.offset, i.size)) = some places ∧
    ∀ (f : Nat) (x : Field), l[f]? = some x → ∃ d, P.info? x.type = some d ∧ places[f]? = some (x.offset, d.size)
  | [], _ => ⟨[], rfl, fun f x hx => by simp at hx⟩
  | y :: l, h => by
    obtain ⟨places, e, hp⟩ := places_ok l fun f hf => h f (by simp [hf])
    obtain ⟨d, hd⟩ := Option.isSome_iff_exists.1 (h y (by simp))
    refine ⟨(y.offset, d.size) :: places, by simp [List.mapM_cons, hd, e], fun f x hx => ?_⟩
    cases f with
    | zero => simp at hx; subst hx; exact ⟨d, hd, by simp⟩
    | succ f => obtain ⟨d', h1, h2⟩ := hp f x (by simpa using hx); exact ⟨d', h1, by simpa using h2⟩
theorem All2.zipParts {R : V → Value → Prop} : ∀ (parts : List (Nat × Operand)) {vs : List V} {ev : Operand → Value}, All2 R vs (parts.map fun p => ev p.2) →
    All2 (fun (p : Nat × V) (q : Nat × Value) => p.1 = q.1 ∧ R p.2 q.2) ((parts.map (·.1)).zip vs) (parts.map fun p => (p.1, ev p.2))
  | [], vs, ev, h => by cases h; exact .nil
  | p :: parts, vs, ev, h => by
    cases h with
    | cons r h => exact .cons ⟨rfl, r⟩ (All2.zipParts parts h)
theorem build_ok (EO : EnvOk P E) (R : RS B K σ A S a w) {t : TypeId} {parts : Array (Nat × Operand)} {z : V} {new : List Root} {call : CallF} {start ty : Nat}
    (h : evQ E call S.tmps S.heap start ty (.build t parts) = some (z, new)) : new = [] ∧ Val P K σ A S w (do pure (.value (← Instr.build t (parts.map fun (i, x) => (i, a.eval x))))) z := by
  simp only [evQ] at h
  split at h
  · rename_i i hi
    have T := EO.ty _ _ hi
    split at h
    · rename_i fs hk
      split at h
      · rename_i vs hvs
        simp only [Option.map_eq_some_iff, Prod.mk.injEq] at h
        obtain ⟨cs, hcs, rfl, rfl⟩ := h
        have kt := T.kind
        rw [hk] at kt
        obtain ⟨F, hF, _⟩ := kt
        obtain ⟨places, hpl, hp⟩ := places_ok F.toList fun f hf => T.parts F hF f (by simpa using hf)
        have hp' : ∀ (f : Nat) (x : Field), F[f]? = some x → ∃ d, P.info? x.type = some d ∧ places[f]? = some (x.offset, d.size) := fun f x hx => hp f x (by simpa using hx)
        obtain ⟨d, hd, hs, _, zz, hz, hza, hzagg⟩ := T.info
        have r := opds_ok R hvs
        simp only [List.map_map, Function.comp_def] at r
        have r1 : All2 (fun v u => RV w A σ S.heap v u ∧ ∀ n ∈ v.ids, K n) vs (parts.toList.map fun p => a.eval p.2) := r
        have r2 := (All2.zipParts parts.toList r1).mono (R' := fun p q => p.1 = q.1 ∧ RV w A σ S.heap p.2 q.2 ∧ ∀ n ∈ p.2.ids, K n) fun x u _ h => h
        have hzero : All2 (RV1 w A σ S.heap) i.zero zz.cells.toList := hza.mono fun x u _ h => h.rv1
        obtain ⟨arr', g1, g2, g3⟩ := fill_ok EO T hF hp' hcs r2 hzero (by rw [hza.zids]; simp)
        have hbuilt : P.built t (parts.map fun (i, x) => (i, a.eval x)).toList = some arr' := by
          unfold Program.built
          simp only [hd, hF, hz, hpl]
          simpa using g1
        refine ⟨rfl, .agg arr', ?_, ⟨arr', rfl, g2⟩, by simpa [V.ids, W.ids] using g3⟩
        simp only [Sem.run_bind, run_build w t _ arr' hbuilt, Result.andThen_ok]
        rfl
      · cases h
    · cases h
  · cases h
end
end Go.Proofs.YtfokmnafgabdiaaGreatDoor.Eng
namespace Go.Proofs.YtfokmnafgabdiaaGreatDoor.Eng
open Go Go.RowKit
set_option linter.unusedVariables false
set_option linter.unusedSimpArgs false

section
variable {P : Program} {E : Env} {B : Base} {K : Nat → Prop} {σ : Sig} {A : Nat → Prop} {S : St} {a : Act} {w : World}

def Grows (P : Program) (B : Base) (K : Nat → Prop) (S : St) (a : Act) (w : World) (o : Oper) (start : Nat) (v : V) (new : List Root) : Prop :=
  ∃ u w' σ' A', (execOp a.eval o).run P w = .ok (.value u) w' ∧
    RS B (fun n => K n ∨ (start ≤ n ∧ n < start + new.length)) σ' A' { tmps := setTmp S.tmps o.dst v, heap := puts S.heap start new } (a.put o.dst u) w'
theorem Val.grows (R : RS B K σ A S a w) {o : Oper} {start : Nat} {v : V} (h : Val P K σ A S w (execOp a.eval o) v) : Grows P B K S a w o start v [] := by
  obtain ⟨u, h1, h2, h3⟩ := h
  exact ⟨u, w, σ, A, h1, (R.value h2 h3).mono fun n hn => .inl hn⟩

theorem RS.grow1 (R : RS B K σ A S a w) (hn0 : ∀ n, B.K0 n → K n) {start : Nat} (hs : ¬ K start) {r : Root} {arr : Array Value} {T : TypeId} {dst : Option Tmp} {v : V} {u : Value} {σ' : Sig} (hσ : σ' = fun n => if n = start then some (w.heap.size, 0) else σ n)
    (hr : RRoot (w.alloc (.cells arr T)) A σ' (put S.heap start r) start r) (hids : ∀ m ∈ r.ids, K m)
    (hv : RV (w.alloc (.cells arr T)) A σ' (put S.heap start r) v u) (hvids : ∀ n ∈ v.ids, n = start) :
    RS B (fun n => K n ∨ (start ≤ n ∧ n < start + [r].length)) σ' A { tmps := setTmp S.tmps dst v, heap := puts S.heap start [r] } (a.put dst u) (w.alloc (.cells arr T)) := by
  have hne : ∀ n, K n → n ≠ start := fun n hn e => hs (e ▸ hn)
  have hsig : ∀ n, K n → σ' n = σ n := fun n hn => by rw [hσ]; simp [hne n hn]
  refine R.grow (Ext.alloc w _ _) (fun b h => h) (fun b h => .inl h) (fun b h => by have := R.heap.lt b h; simp; omega) hsig (fun n hn => hsig n (hn0 n hn)) ?_ ?_ ?_ ?_ ?_ hv ?_
  · intro n h1 h2 hk; simp at h2; exact hs ((show n = start by omega) ▸ hk)
  · intro k hk; simp at hk; subst hk; exact hr
  · intro k b o ho hb
    have hk : k = 0 := by
      cases k with
      | zero => rfl
      | succ k => simp [rget] at ho; cases ho
    subst hk
    rw [hσ] at hb; simp at hb
    obtain ⟨rfl, rfl⟩ := hb
    exact ⟨Nat.le_refl _, fun ha => by have := R.heap.lt _ ha; omega⟩
  · intro k m b o o' h1 h2 _ _
    have hk : k = 0 := by
      cases k with
      | zero => rfl
      | succ k => simp [rget] at h1; cases h1
    have hm : m = 0 := by
      cases m with
      | zero => rfl
      | succ k => simp [rget] at h2; cases h2
    omega
  · intro k m hm
    cases k with
    | zero => exact .inl (hids m hm)
    | succ k => simp [rget, Root.ids] at hm
  · intro n hn; exact .inr (by have := hvids n hn; simp; omega)

theorem RV1.old {x : V1} {u : Value} {start : Nat} {r : Root} {σ' : Sig} {o : Obj} (R : RS B K σ A S a w) (hs : ¬ K start) (hσ : σ' = fun n => if n = start then some (w.heap.size, 0) else σ n)
    (hx : RV1 w A σ S.heap x u) (hk : ∀ n ∈ x.ids, K n) : RV1 (w.alloc o) A σ' (put S.heap start r) x u :=
  hx.stays (fun b hb => heap_alloc_lt w o (R.heap.lt b hb)) (fun b h => h) fun n hn =>
    have hne : n ≠ start := fun e => hs (e ▸ hk n hn)
    ⟨by rw [hσ]; simp [hne], by rw [rget_put_ne _ _ hne]; exact Compat.refl _, fun b o' _ _ => (Ext.alloc w o fun _ => False).wide b⟩
theorem var_root {start : Nat} {xs : List V1} {arr : Array Value} {T : TypeId} {σ' : Sig} {h : List Root} (hσ : σ' start = some (w.heap.size, 0))
    (hx : All2 (RV1 (w.alloc (.cells arr T)) A σ' h) xs arr.toList) : RRoot (w.alloc (.cells arr T)) A σ' h start (.var xs) := by
  refine ⟨w.heap.size, 0, arr, T, hσ, heap_alloc_at w _, by have := hx.length; simp at this; omega, fun j x hj => ?_⟩
  obtain ⟨v, hv, r⟩ := hx.get hj
  exact ⟨v, by simpa using hv, r⟩
theorem alloc_ok (EO : EnvOk P E) (R : RS B K σ A S a w) (hn0 : ∀ n, B.K0 n → K n) {t : TypeId} {z : V} {new : List Root} {call : CallF} {start ty : Nat} {o : Oper} (ho : o.op = .alloc t) (hs : new ≠ [] → ¬ K start)
    (h : evQ E call S.tmps S.heap start ty (.alloc t) = some (z, new)) : Grows P B K S a w o start z new := by
  simp only [evQ, Option.map_eq_some_iff, Prod.mk.injEq] at h
  obtain ⟨i, hi, rfl, rfl⟩ := h
  have T := EO.ty _ _ hi
  obtain ⟨d, hd, hsz, _, zz, hz, hza, _⟩ := T.info
  have hk := hs (by simp)
  refine ⟨.pointer (some ⟨w.heap.size, 0, none⟩), w.alloc (.cells zz.cells t), _, A, ?_, R.grow1 hn0 hk rfl ?_ ?_ ?_ ?_⟩
  · simp only [execOp, ho, Instr.alloc, Sem.run_bind, zeroValue, run_info hd, Result.andThen_ok, hz, Sem.run_pure, newVar, newRow, run_newObj]
    rfl
  · exact var_root (by simp) (hza.mono fun x u _ hx => hx.rv1)
  · intro m hm; simp only [Root.ids, hza.zids] at hm; cases hm
  · refine ⟨⟨_, _, rfl⟩, fun cells hc => ⟨w.heap.size, 0, by simp, by simp⟩, fun sz rs hc => ?_⟩
    rw [rget_put_self] at hc; rcases hc with hc | hc <;> cases hc
  · intro n hn; simpa [vone, V.ids, W.ids, V1.ids, Pt.ids] using hn
theorem box_ok (EO : EnvOk P E) (R : RS B K σ A S a w) (hn0 : ∀ n, B.K0 n → K n) {t : TypeId} {x : Operand} {z : V} {new : List Root} {call : CallF} {start ty : Nat} {o : Oper} (ho : o.op = .box t x) (hs : new ≠ [] → ¬ K start)
    (h : evQ E call S.tmps S.heap start ty (.box t x) = some (z, new)) : Grows P B K S a w o start z new := by
  simp only [evQ] at h
  split at h
  · rename_i xs hxs
    simp at h; obtain ⟨rfl, rfl⟩ := h
    simp only [Option.bind_eq_some_iff] at hxs
    obtain ⟨v0, h0, hxs⟩ := hxs
    obtain ⟨r0, k0⟩ := opd_ok R h0
    obtain ⟨r1, k1⟩ := vcells_ok hxs r0
    have hk := hs (by simp)
    refine ⟨.pointer (some ⟨w.heap.size, 0, none⟩), w.alloc (.cells (a.eval x).cells t), _, A, ?_, R.grow1 hn0 hk rfl ?_ ?_ ?_ ?_⟩
    · simp only [execOp, ho, Instr.box, Sem.run_bind, Result.andThen_ok, Sem.run_pure, newVar, newRow, run_newObj]
      rfl
    · refine var_root (by simp) (r1.mono fun x u hx r => r.old R hk rfl fun n hn => k0 n (k1 n (by simp only [List.mem_flatMap]; exact ⟨x, hx, hn⟩)))
    · intro m hm; exact k0 m (k1 m hm)
    · refine ⟨⟨_, _, rfl⟩, fun cells hc => ⟨w.heap.size, 0, by simp, by simp⟩, fun sz rs hc => ?_⟩
      rw [rget_put_self] at hc; rcases hc with hc | hc <;> cases hc
    · intro n hn; simpa [vone, V.ids, W.ids, V1.ids, Pt.ids] using hn
  · cases h

def Flat (w : World) (A : Nat → Prop) (sz : Nat) (rows : List (List C)) (arr : Array Value) : Prop :=
  (∀ r ∈ rows, r.length = sz) ∧ ∀ i r j c, rows[i]? = some r → r[j]? = some c → ∃ v, arr[i * sz + j]? = some v ∧ RC w A c v
theorem Flat.alloc {sz : Nat} {rows : List (List C)} {arr : Array Value} {o : Obj} (hlt : ∀ b, A b → b < w.heap.size) (h : Flat w A sz rows arr) : Flat (w.alloc o) A sz rows arr :=
  ⟨h.1, fun i r j c hi hj => by obtain ⟨v, h1, h2⟩ := h.2 i r j c hi hj; exact ⟨v, h1, h2.mono (fun b hb => heap_alloc_lt w o (hlt b hb)) fun b h => h⟩⟩
theorem rows_root {start : Nat} {sz : Nat} {rows : List (List C)} {arr : Array Value} {T : TypeId} {σ' : Sig} {h : List Root} (hσ : σ' start = some (w.heap.size, 0)) (hsz : rows.length * sz ≤ arr.size)
    (hx : Flat (w.alloc (.cells arr T)) A sz rows arr) : RRoot (w.alloc (.cells arr T)) A σ' h start (.rows sz rows) := by
  refine ⟨hx.1, .inr ⟨w.heap.size, 0, arr, T, hσ, heap_alloc_at w _, by omega, fun i r j c hi hj => ?_⟩⟩
  obtain ⟨v, hv, r⟩ := hx.2 i r j c hi hj
  exact ⟨v, by simpa using hv, r⟩
theorem quietC_ok {x : V1} {c : C} {u : Value} {h : List Root} (hq : quietC x = some c) (r : RV1 w A σ h x u) : RC w A c u := by
  cases x with
  | c x => simp [quietC] at hq; subst hq; exact r
  | nil sz =>
    simp [quietC] at hq; subst hq
    have : u = .slice none 0 0 := r
    subst this
    exact RC.mk_ro (rows := []) (Nat.le_refl _) (by simp) (fun i r j c hi => by simp at hi)
  | ref n off len cap => simp [quietC] at hq
  | pt p => simp [quietC] at hq
  | clo g caps => simp [quietC] at hq
theorem zeros_flat {z : List C} {zs : List V1} {us : Array Value} (hz : mapO quietC zs = some z) (hza : All2 ZV zs us.toList) (len N : Nat) (hN : len * z.length ≤ N) :
    Flat w A z.length (List.replicate len z) ((Array.range N).map (us[· % us.size]!)) := by
  have hus : us.size = z.length := by have h1 := hza.length; have h2 := mapO_length hz; simp at h1; omega
  refine ⟨fun r hr => by rw [List.eq_of_mem_replicate hr], fun i r j c hi hj => ?_⟩
  rw [List.getElem?_replicate] at hi
  split at hi
  · rename_i hlt
    simp at hi; subst hi
    have hj' : j < z.length := by rcases Nat.lt_or_ge j z.length with h | h; exact h; simp [List.getElem?_eq_none h] at hj
    obtain ⟨x, hx, hq⟩ := mapO_get hz hj
    obtain ⟨u, hu, r⟩ := hza.get hx
    have hlt2 : i * z.length + j < N := by
      have : (i + 1) * z.length ≤ len * z.length := Nat.mul_le_mul_right _ hlt
      rw [Nat.add_mul] at this; omega
    refine ⟨u, ?_, quietC_ok hq (h := []) (σ := fun _ => none) r.rv1⟩
    rw [Array.getElem?_map]
    rw [Array.getElem?_range]
    rw [if_pos hlt2]
    simp only [Option.map_some, hus]
    rw [show (i * z.length + j) % z.length = j from by rw [Nat.mul_comm, Nat.mul_add_mod]; exact Nat.mod_eq_of_lt hj']
    rw [Array.getElem?_toList] at hu
    rw [getElem!_pos us j (by omega)]
    rw [Array.getElem?_eq_getElem (by omega)] at hu
    simpa using hu
  · cases hi
theorem fillRows_ok {sz : Nat} {h : List Root} : ∀ {parts : List (Nat × V)} {us : List (Nat × Value)} {rows rows' : List (List C)} {arr : Array Value}, fillRows sz rows parts = some rows' →
      All2 (fun p q => p.1 = q.1 ∧ RV w A σ h p.2 q.2 ∧ ∀ n ∈ p.2.ids, K n) parts us → Flat w A sz rows arr → rows.length * sz ≤ arr.size →
      ∃ arr', Instr.fill (fun i => some (i * sz, sz)) arr us = some arr' ∧ Flat w A sz rows' arr' ∧ rows'.length = rows.length ∧ arr'.size = arr.size
  | [], us, rows, rows', arr, h1, r, q, hl => by
    cases r
    simp [fillRows] at h1; subst h1
    exact ⟨arr, rfl, q, rfl, rfl⟩
  | (f, v) :: parts, us, rows, rows', arr, h1, r, q, hl => by
    cases r with
    | cons r0 r =>
      rename_i u us
      obtain ⟨e0, rv, kv⟩ := r0
      simp only [fillRows] at h1
      split at h1
      · rename_i xs hxs
        split at h1
        · rename_i cs hcs
          split at h1
          · rename_i hc
            obtain ⟨hclen, hf⟩ := hc
            obtain ⟨rx, kx⟩ := vcells_ok hxs rv
            have rc : All2 (RC w A) cs u.2.cells.toList := rx.mapO hcs fun x y u _ hq r => quietC_ok hq r
            have hvs : u.2.cells.size = sz := by have := rc.length; simp at this; omega
            have hle : f * sz + sz ≤ arr.size := by
              have : (f + 1) * sz ≤ rows.length * sz := Nat.mul_le_mul_right _ hf
              rw [Nat.add_mul] at this; omega
            have harr := foldl_sets (f * sz) u.2.cells.toList 0 arr (by simp; omega)
            have hflat : Flat w A sz (rows.set f cs) (u.2.cells.zipIdx.foldl (fun cs (p : Value × Nat) => cs.setIfInBounds (f * sz + p.2) p.1) arr) := by
              refine ⟨fun r hr => by rcases List.mem_or_eq_of_mem_set hr with hr | rfl; exact q.1 r hr; exact hclen, fun i r j c hi hj => ?_⟩
              rw [← Array.getElem?_toList, ← Array.foldl_toList, Array.toList_zipIdx, harr]
              simp only [Array.length_toList, Nat.add_zero]
              have hts : (arr.toList.take (f * sz)).length = f * sz := by simp; omega
              by_cases hif : i = f
              · subst hif
                rw [List.getElem?_set_self hf] at hi
                simp at hi; subst hi
                obtain ⟨v', hv', r'⟩ := rc.get hj
                have hjl : j < sz := by rw [← hclen]; rcases Nat.lt_or_ge j cs.length with h | h; exact h; simp [List.getElem?_eq_none h] at hj
                refine ⟨v', ?_, r'⟩
                rw [List.append_assoc, List.getElem?_append_right (by omega), hts, List.getElem?_append_left (by simp; omega), show i * sz + j - i * sz = j from by omega]
                exact hv'
              · rw [List.getElem?_set_ne (fun e => hif e.symm)] at hi
                obtain ⟨v', hv', r'⟩ := q.2 i r j c hi hj
                have hrl := q.1 r (List.mem_of_getElem? hi)
                have hjl : j < sz := by rw [← hrl]; rcases Nat.lt_or_ge j r.length with h | h; exact h; simp [List.getElem?_eq_none h] at hj
                refine ⟨v', ?_, r'⟩
                rw [← Array.getElem?_toList] at hv'
                rcases Nat.lt_or_ge i f with hlt | hge
                · have : (i + 1) * sz ≤ f * sz := Nat.mul_le_mul_right _ hlt
                  rw [Nat.add_mul] at this
                  rw [List.append_assoc, List.getElem?_append_left (by omega), List.getElem?_take_of_lt (by omega)]
                  exact hv'
                · have : (f + 1) * sz ≤ i * sz := Nat.mul_le_mul_right _ (by omega)
                  rw [Nat.add_mul] at this
                  rw [List.getElem?_append_right (by simp; omega), List.getElem?_drop]
                  simp only [List.length_append, hts, Array.length_toList]
                  rw [show f * sz + u.2.cells.size + (i * sz + j - (f * sz + u.2.cells.size)) = i * sz + j from by omega]
                  exact hv'
            obtain ⟨arr', g1, g2, g3, g4⟩ := fillRows_ok h1 r hflat (by
              have hsz2 : (u.2.cells.zipIdx.foldl (fun cs (p : Value × Nat) => cs.setIfInBounds (f * sz + p.2) p.1) arr).size = arr.size := by
                have := congrArg List.length harr
                rw [← Array.foldl_toList, Array.toList_zipIdx, ← Array.length_toList, this]; simp; omega
              rw [hsz2]; simpa using hl)
            refine ⟨arr', ?_, g2, by simpa using g3, ?_⟩
            · obtain ⟨u1, u2⟩ := u
              simp only at e0 hvs hle g1
              subst e0
              simp only [Instr.fill]
              rw [if_neg (by simp; omega)]
              exact g1
            · rw [g4]
              have := congrArg List.length harr
              rw [← Array.foldl_toList, Array.toList_zipIdx, ← Array.length_toList, this]; simp; omega
          · cases h1
        · cases h1
      · cases h1
theorem map_range0 (f : Nat → Value) : (Array.range 0).map f = #[] := by simp
theorem buildSlice_ok (EO : EnvOk P E) (R : RS B K σ A S a w) (hn0 : ∀ n, B.K0 n → K n) {t : TypeId} {len : Nat} {parts : Array (Nat × Operand)} {z : V} {new : List Root} {call : CallF} {start ty : Nat} {o : Oper} (ho : o.op = .buildSlice t len parts) (hs : new ≠ [] → ¬ K start)
    (h : evQ E call S.tmps S.heap start ty (.buildSlice t len parts) = some (z, new)) : Grows P B K S a w o start z new := by
  simp only [evQ] at h
  split at h
  · rename_i e zs zb zz hT
    split at h
    · rename_i i hi
      split at h
      · rename_i hbig
        split at h
        · rename_i z0 vs hz0 hvs
          simp only [Option.map_eq_some_iff, Prod.mk.injEq] at h
          obtain ⟨rs, hrs, rfl, rfl⟩ := h
          have kt : P.underlying t = some (.slice e) := (EO.ty _ _ hT).kind
          have Te := EO.ty _ _ hi
          obtain ⟨d, hd, hsz, _, zv, hz, hza, _⟩ := Te.info
          have hk := hs (by simp)
          have hlen0 : z0.length = i.size := by rw [mapO_length hz0, Te.len]
          have r := opds_ok R hvs
          simp only [List.map_map, Function.comp_def] at r
          have r1 : All2 (fun v u => RV w A σ S.heap v u ∧ ∀ n ∈ v.ids, K n) vs (parts.toList.map fun p => a.eval p.2) := r
          have r2 := (All2.zipParts parts.toList r1).mono (R' := fun p q => p.1 = q.1 ∧ RV w A σ S.heap p.2 q.2 ∧ ∀ n ∈ p.2.ids, K n) fun x u _ h => h
          have hf0 := zeros_flat (w := w) (A := A) hz0 hza len (len * i.size) (by rw [hlen0]; exact Nat.le_refl _)
          rw [hlen0] at hf0
          obtain ⟨arr', g1, g2, g3, g4⟩ := fillRows_ok hrs r2 hf0 (by simp)
          simp only [List.length_replicate] at g3
          have hsize : arr'.size = len * i.size := by rw [g4]; simp
          refine ⟨.slice (some ⟨w.heap.size, 0, none⟩) len len, w.alloc (.cells arr' e), _, A, ?_, R.grow1 hn0 hk rfl ?_ ?_ ?_ ?_⟩
          · have hsz' : (sizeOf e).run P w = .ok i.size w := Te.size w
            have hzr : (zeroValue e).run P w = .ok zv w := by simp [zeroValue, run_info hd, hz]
            have g1' : Instr.fill (fun i_1 => some (i_1 * i.size, i.size)) ((Array.range (len * i.size)).map (zv.cells[· % zv.cells.size]!)) (parts.map fun (i, x) => (i, a.eval x)).toList = some arr' := by simpa using g1
            simp only [execOp, ho, Instr.buildSlice, Sem.run_bind, run_und kt, Result.andThen_ok, hsz']
            rw [if_neg (by omega)]
            by_cases h0 : len * i.size = 0
            · have g1'' : Instr.fill (fun i_1 => some (i_1 * i.size, i.size)) ((Array.range (len * i.size)).map ((#[] : Array Value)[· % (#[] : Array Value).size]!)) (parts.map fun (i, x) => (i, a.eval x)).toList = some arr' := by rw [h0] at g1' ⊢; rw [map_range0] at g1' ⊢; exact g1'
              rw [if_pos h0]
              simp only [Sem.run_bind, Sem.run_pure, Result.andThen_ok]
              rw [g1'']
              simp only [Sem.run_bind, newRow, run_newObj, Result.andThen_ok, Sem.run_pure]
              rfl
            · rw [if_neg h0]
              simp only [Sem.run_bind, hzr, Sem.run_pure, Result.andThen_ok]
              rw [g1']
              simp only [Sem.run_bind, newRow, run_newObj, Result.andThen_ok, Sem.run_pure]
              rfl
          · exact rows_root (by simp) (by rw [hsize, g3]; exact Nat.le_refl _) (g2.alloc R.heap.lt)
          · intro m hm; simp [Root.ids] at hm
          · refine ⟨rfl, fun sz' rs' hq => ?_⟩
            rw [rget_put_self] at hq
            rcases hq with hq | hq
            · cases hq
              refine ⟨by omega, _, _, rfl, Nat.le_refl _, by simp, .inr ⟨w.heap.size, 0, by simp, by simp, fun _ => ⟨arr', e, (0, 0), heap_alloc_at w _, by rw [hsize]; simp⟩⟩⟩
            · cases hq
          · intro n hn; simpa [vone, V.ids, W.ids, V1.ids, Pt.ids] using hn
        · cases h
      · cases h
    · cases h
  · cases h
theorem wrap_small {n : Int} (h0 : 0 ≤ n) (h1 : n ≤ 2 ^ 40) : IntKind.i64.wrap n = n := by
  have e : n % (2 ^ IntKind.i64.bits : Int) = n := Int.emod_eq_of_lt h0 (by simp [IntKind.bits]; omega)
  unfold IntKind.wrap
  simp only [e]
  rw [if_neg]
  simp [IntKind.bits, IntKind.signed]; omega
theorem makeSlice_ok (EO : EnvOk P E) (R : RS B K σ A S a w) (hn0 : ∀ n, B.K0 n → K n) {t : TypeId} {len cap : Operand} {z : V} {new : List Root} {call : CallF} {start ty : Nat} {o : Oper} (ho : o.op = .makeSlice t len cap) (hs : new ≠ [] → ¬ K start)
    (h : evQ E call S.tmps S.heap start ty (.makeSlice t len cap) = some (z, new)) : Grows P B K S a w o start z new := by
  simp only [evQ] at h
  split at h
  · rename_i e zs zb zz hT
    split at h
    · rename_i i n m hi hn hm
      split at h
      · rename_i hbig
        obtain ⟨b0, b1, b2, b3⟩ := hbig
        unfold mostRows at b2
        split at h
        · rename_i z0 hz0
          simp at h; obtain ⟨rfl, rfl⟩ := h
          simp only [Option.bind_eq_some_iff] at hn hm
          obtain ⟨v1, h1, hn⟩ := hn
          obtain ⟨v2, h2, hm⟩ := hm
          obtain ⟨k1, e1⟩ := intOf_ok hn (opd_ok R h1).1
          obtain ⟨k2, e2⟩ := intOf_ok hm (opd_ok R h2).1
          have kt : P.underlying t = some (.slice e) := (EO.ty _ _ hT).kind
          have Te := EO.ty _ _ hi
          obtain ⟨d, hd, hsz, hby, zv, hz, hza, _⟩ := Te.info
          have hk := hs (by simp)
          have hlen0 : z0.length = i.size := by rw [mapO_length hz0, Te.len]
          have hle : n.toNat * i.size ≤ m.toNat * i.size := Nat.mul_le_mul_right _ (by omega)
          have hf0 := zeros_flat (w := w) (A := A) hz0 hza n.toNat (m.toNat * i.size) (by rw [hlen0]; exact hle)
          rw [hlen0] at hf0
          have hsz' : (sizeOf e).run P w = .ok i.size w := Te.size w
          have hw1 := wrap_small b0 (by omega : n ≤ 2 ^ 40)
          have hw2 := wrap_small (by omega : 0 ≤ m) (by omega : m ≤ 2 ^ 40)
          refine ⟨.slice (some ⟨w.heap.size, 0, none⟩) n.toNat m.toNat, w.alloc (.cells ((Array.range (m.toNat * i.size)).map (zv.cells[· % zv.cells.size]!)) e), _, A, ?_, R.grow1 hn0 hk rfl ?_ ?_ ?_ ?_⟩
          · have hzr : (zeroValue e).run P w = .ok zv w := by simp [zeroValue, run_info hd, hz]
            have hlarge : ¬ ((m < 0 ∨ (d.bytes : Int) * m > 2 ^ 48) ∨ n < 0) ∧ ¬ n > m := by
              refine ⟨?_, by omega⟩
              have : (d.bytes : Int) * m ≤ 1024 * 2 ^ 22 := by
                have h5 : (d.bytes : Int) ≤ 1024 := by omega
                exact Int.mul_le_mul h5 b2 (by omega) (by omega)
              omega
            simp only [execOp, ho, Instr.makeSlice, Sem.run_bind, run_und kt, Result.andThen_ok, e1, e2, asInt, asIntOf, Sem.run_pure, run_info hd, hw1, hw2]
            rw [if_neg (by simp only [Bool.or_eq_true, decide_eq_true_eq]; intro hh; rcases hh with hh | hh; exact hlarge.1 hh; exact hlarge.2 hh)]
            by_cases h0 : m.toNat * i.size = 0
            · simp only [Sem.run_bind, run_askRoom, Result.andThen_ok, hsz']
              rw [if_pos h0]
              simp only [Sem.run_bind, Sem.run_pure, Result.andThen_ok, newRow, run_newObj, h0, map_range0]
              rfl
            · simp only [Sem.run_bind, run_askRoom, Result.andThen_ok, hsz']
              rw [if_neg h0]
              simp only [Sem.run_bind, hzr, Sem.run_pure, Result.andThen_ok, newRow, run_newObj]
              rfl
          · exact rows_root (by simp) (by simp; exact hle) (hf0.alloc R.heap.lt)
          · intro q hq; simp [Root.ids] at hq
          · refine ⟨rfl, fun sz' rs' hq => ?_⟩
            rw [rget_put_self] at hq
            rcases hq with hq | hq
            · cases hq
              refine ⟨by simp, _, _, rfl, by omega, by simp, .inr ⟨w.heap.size, 0, by simp, by simp, fun _ => ⟨_, e, (0, 0), heap_alloc_at w _, by simp⟩⟩⟩
            · cases hq
          · intro q hq; simpa [vone, V.ids, W.ids, V1.ids, Pt.ids] using hq
        · cases h
      · cases h
    · cases h
  · cases h
end
end Go.Proofs.YtfokmnafgabdiaaGreatDoor.Eng
namespace Go.Proofs.YtfokmnafgabdiaaGreatDoor.Eng
open Go Go.RowKit
set_option linter.unusedVariables false
set_option linter.unusedSimpArgs false

def shPt (k : Nat) : Pt → Pt
  | .ptr n i j => .ptr (n + k) i j
  | .rp cells => .rp cells
def shV1 (k : Nat) : V1 → V1
  | .ref n off len cap => .ref (n + k) off len cap
  | .pt p => .pt (shPt k p)
  | .clo g caps => .clo g (caps.map (shPt k))
  | x => x
def shW (k : Nat) : W → W
  | .one x => .one (shV1 k x)
  | .agg xs => .agg (xs.map (shV1 k))
def shV (k : Nat) : V → V
  | .w x => .w (shW k x)
  | .tup xs => .tup (xs.map (shW k))
  | .dead => .dead
def shRoot (k : Nat) : Root → Root
  | .var cells => .var (cells.map (shV1 k))
  | r => r

section
variable {w : World} {A : Nat → Prop} {σ σ' : Sig} {h h' : List Root} {k : Nat}
def Sh (k : Nat) (σ σ' : Sig) (h h' : List Root) (n : Nat) : Prop := rget h' (n + k) = shRoot k (rget h n) ∧ σ' (n + k) = σ n
theorem sh_rows {r : Root} {sz : Nat} {rs : List (List C)} : shRoot k r = .rows sz rs ↔ r = .rows sz rs := by cases r <;> simp [shRoot]
theorem sh_fro {r : Root} {sz : Nat} {rs : List (List C)} : shRoot k r = .fro sz rs ↔ r = .fro sz rs := by cases r <;> simp [shRoot]
theorem sh_own {r : Root} : (shRoot k r).own = r.own := by cases r <;> rfl
theorem RPt.shift {p : Pt} {u : Value} (hs : ∀ n ∈ p.ids, Sh k σ σ' h h' n) (r : RPt w A σ h p u) : RPt w A σ' h' (shPt k p) u := by
  cases p with
  | rp cells => exact r
  | ptr n i j =>
    obtain ⟨e1, e2⟩ := hs n (by simp [Pt.ids])
    obtain ⟨h1, h2, h3⟩ := r
    refine ⟨h1, fun cells hc => ?_, fun sz rs hc => ?_⟩
    · rw [e1] at hc
      cases hq : rget h n with
      | var c => obtain ⟨b, o, g1, g2⟩ := h2 c hq; exact ⟨b, o, e2.trans g1, g2⟩
      | dead => rw [hq] at hc; cases hc
      | rows _ _ => rw [hq] at hc; cases hc
      | fro _ _ => rw [hq] at hc; cases hc
    · rw [e1, sh_rows, sh_fro] at hc
      obtain ⟨b, o, g1, g2⟩ := h3 sz rs hc; exact ⟨b, o, e2.trans g1, g2⟩
theorem RV1.shift {x : V1} {u : Value} (hs : ∀ n ∈ x.ids, Sh k σ σ' h h' n) (r : RV1 w A σ h x u) : RV1 w A σ' h' (shV1 k x) u := by
  cases x with
  | c x => exact r
  | nil sz => exact r
  | ref n off len cap =>
    obtain ⟨e1, e2⟩ := hs n (by simp [V1.ids])
    refine ⟨r.1, fun sz rs hq => ?_⟩
    rw [e1, sh_rows, sh_fro] at hq
    obtain ⟨h1, a, q, h2, h3, h4, h5⟩ := r.2 sz rs hq
    refine ⟨h1, a, q, h2, h3, h4, ?_⟩
    rcases h5 with h5 | ⟨b, o, g1, g2, g3⟩
    · exact .inl h5
    · refine .inr ⟨b, o, e2.trans g1, g2, fun hr => g3 ?_⟩
      rw [e1, sh_rows] at hr; exact hr
  | pt p => exact RPt.shift hs r
  | clo g caps =>
    obtain ⟨us, e, h2⟩ := r
    exact ⟨us, e, h2.map fun p v hp r => RPt.shift (fun n hn => hs n (by simp only [V1.ids, List.mem_flatMap]; exact ⟨p, hp, hn⟩)) r⟩
theorem RW.shift {x : W} {u : Value} (hs : ∀ n ∈ x.ids, Sh k σ σ' h h' n) (r : RW w A σ h x u) : RW w A σ' h' (shW k x) u := by
  cases x with
  | one x => exact RV1.shift hs r
  | agg xs =>
    obtain ⟨us, e, h2⟩ := r
    exact ⟨us, e, h2.map fun p v hp r => RV1.shift (fun n hn => hs n (by simp only [W.ids, List.mem_flatMap]; exact ⟨p, hp, hn⟩)) r⟩
theorem RV.shift {x : V} {u : Value} (hs : ∀ n ∈ x.ids, Sh k σ σ' h h' n) (r : RV w A σ h x u) : RV w A σ' h' (shV k x) u := by
  cases x with
  | w x => exact RW.shift hs r
  | tup xs =>
    obtain ⟨us, e, h2⟩ := r
    exact ⟨us, e, h2.map fun p v hp r => RW.shift (fun n hn => hs n (by simp only [V.ids, List.mem_flatMap]; exact ⟨p, hp, hn⟩)) r⟩
  | dead => trivial
theorem RRoot.shift {n : Nat} {r : Root} (hσ : σ' (n + k) = σ n) (hs : ∀ m ∈ r.ids, Sh k σ σ' h h' m) (hr : RRoot w A σ h n r) : RRoot w A σ' h' (n + k) (shRoot k r) := by
  cases r with
  | dead => trivial
  | var cells =>
    obtain ⟨b, o, arr, T, e1, e2, e3, e4⟩ := hr
    refine ⟨b, o, arr, T, hσ.trans e1, e2, by simpa using e3, fun j x hx => ?_⟩
    simp only [List.getElem?_map, Option.map_eq_some_iff] at hx
    obtain ⟨y, hy, rfl⟩ := hx
    obtain ⟨v, hv, r⟩ := e4 j y hy
    exact ⟨v, hv, r.shift fun m hm => hs m (by simp only [Root.ids, List.mem_flatMap]; exact ⟨y, List.mem_of_getElem? hy, hm⟩)⟩
  | rows sz rs =>
    refine ⟨hr.1, ?_⟩
    rcases hr.2 with ⟨e1, e2⟩ | ⟨b, o, arr, T, e1, rest⟩
    · exact .inl ⟨hσ.trans e1, e2⟩
    · exact .inr ⟨b, o, arr, T, hσ.trans e1, rest⟩
  | fro sz rs =>
    refine ⟨hr.1, ?_⟩
    rcases hr.2 with ⟨e1, e2⟩ | ⟨b, o, e1, rest⟩
    · exact .inl ⟨hσ.trans e1, e2⟩
    · exact .inr ⟨b, o, hσ.trans e1, rest⟩
end

theorem takeB0_sh (n k : Nat) (b : B0) : takeB0 (n + k) b = (shV1 k (takeB0 n b).1, (takeB0 n b).2.map (shRoot k)) := by cases b <;> rfl
theorem takeB0s_sh (n k : Nat) (bs : List B0) : takeB0s (n + k) bs = ((takeB0s n bs).1.map (shV1 k), (takeB0s n bs).2.map (shRoot k)) := by
  induction bs generalizing n with
  | nil => rfl
  | cons b bs ih =>
    simp only [takeB0s, takeB0_sh]
    have : n + k + ((takeB0 n b).2.map (shRoot k)).length = (n + (takeB0 n b).2.length) + k := by simp; omega
    rw [this, ih]; simp
theorem takeB1_sh (n k : Nat) (b : B1) : takeB1 (n + k) b = (shV1 k (takeB1 n b).1, (takeB1 n b).2.map (shRoot k)) := by
  cases b with
  | b x => exact takeB0_sh n k x
  | pv cells =>
    simp only [takeB1]
    rw [show n + k + 1 = (n + 1) + k from by omega, takeB0s_sh]; rfl
  | rp cells => rfl
  | clo g caps => simp [takeB1, shV1, shPt, Function.comp_def]
theorem takeB1s_sh (n k : Nat) (bs : List B1) : takeB1s (n + k) bs = ((takeB1s n bs).1.map (shV1 k), (takeB1s n bs).2.map (shRoot k)) := by
  induction bs generalizing n with
  | nil => rfl
  | cons b bs ih =>
    simp only [takeB1s, takeB1_sh]
    have : n + k + ((takeB1 n b).2.map (shRoot k)).length = (n + (takeB1 n b).2.length) + k := by simp; omega
    rw [this, ih]; simp
theorem takeW_sh (n k : Nat) (b : BW) : takeW (n + k) b = (shW k (takeW n b).1, (takeW n b).2.map (shRoot k)) := by
  cases b with
  | one x => simp only [takeW, takeB1_sh]; rfl
  | agg xs => simp only [takeW, takeB1s_sh]; rfl
theorem takeWs_sh (n k : Nat) (bs : List BW) : takeWs (n + k) bs = ((takeWs n bs).1.map (shW k), (takeWs n bs).2.map (shRoot k)) := by
  induction bs generalizing n with
  | nil => rfl
  | cons b bs ih =>
    simp only [takeWs, takeW_sh]
    have : n + k + ((takeW n b).2.map (shRoot k)).length = (n + (takeW n b).2.length) + k := by simp; omega
    rw [this, ih]; simp
theorem takeV_sh (n k : Nat) (b : BV) : takeV (n + k) b = (shV k (takeV n b).1, (takeV n b).2.map (shRoot k)) := by
  cases b with
  | w x => simp only [takeV, takeW_sh]; rfl
  | tup xs => simp only [takeV, takeWs_sh]; rfl

def Within (n len : Nat) (l : List Nat) : Prop := ∀ m ∈ l, n ≤ m ∧ m < n + len
theorem Within.nil {n len : Nat} : Within n len [] := fun m hm => by cases hm
theorem Within.append {n len : Nat} {l l' : List Nat} (h : Within n len l) (h' : Within n len l') : Within n len (l ++ l') := fun m hm => by
  rcases List.mem_append.1 hm with hm | hm
  · exact h m hm
  · exact h' m hm
theorem Within.mono {n len n' len' : Nat} {l : List Nat} (h : Within n len l) (h1 : n' ≤ n) (h2 : n + len ≤ n' + len') : Within n' len' l := fun m hm => by have := h m hm; omega
theorem takeB0_ids (n : Nat) (b : B0) : Within n (takeB0 n b).2.length (takeB0 n b).1.ids ∧ ∀ r ∈ (takeB0 n b).2, r.ids = [] := by
  cases b with
  | c x => exact ⟨Within.nil, by simp [takeB0]⟩
  | own sz rs cap => exact ⟨fun m hm => by simp [takeB0, V1.ids] at hm; simp [takeB0]; omega, by simp [takeB0, Root.ids]⟩
theorem takeB0s_ids (n : Nat) (bs : List B0) : Within n (takeB0s n bs).2.length ((takeB0s n bs).1.flatMap V1.ids) ∧ ∀ r ∈ (takeB0s n bs).2, r.ids = [] := by
  induction bs generalizing n with
  | nil => exact ⟨Within.nil, by simp [takeB0s]⟩
  | cons b bs ih =>
    obtain ⟨h1, h2⟩ := takeB0_ids n b
    obtain ⟨h3, h4⟩ := ih (n + (takeB0 n b).2.length)
    simp only [takeB0s, List.flatMap_cons, List.length_append]
    refine ⟨(h1.mono (Nat.le_refl _) (by omega)).append (h3.mono (by omega) (by omega)), fun r hr => ?_⟩
    rcases List.mem_append.1 hr with hr | hr
    · exact h2 r hr
    · exact h4 r hr
theorem takeB1_ids (n : Nat) (b : B1) : Within n (takeB1 n b).2.length (takeB1 n b).1.ids ∧ ∀ r ∈ (takeB1 n b).2, Within n (takeB1 n b).2.length r.ids := by
  cases b with
  | b x =>
    obtain ⟨h1, h2⟩ := takeB0_ids n x
    exact ⟨h1, fun r hr => by rw [h2 r hr]; exact Within.nil⟩
  | pv cells =>
    obtain ⟨h1, h2⟩ := takeB0s_ids (n + 1) cells
    refine ⟨fun m hm => by simp [takeB1, V1.ids, Pt.ids] at hm; simp [takeB1]; omega, fun r hr => ?_⟩
    simp only [takeB1, List.mem_cons] at hr
    rcases hr with rfl | hr
    · exact h1.mono (by omega) (by simp only [takeB1, List.length_cons]; omega)
    · rw [h2 r hr]; exact Within.nil
  | rp cells => exact ⟨fun m hm => by simp [takeB1, V1.ids, Pt.ids] at hm, by simp [takeB1]⟩
  | clo g caps =>
    refine ⟨fun m hm => ?_, by simp [takeB1]⟩
    simp only [takeB1, V1.ids, List.mem_flatMap, List.mem_map] at hm
    obtain ⟨_, ⟨_, _, rfl⟩, hm⟩ := hm
    cases hm
theorem takeB1s_ids (n : Nat) (bs : List B1) : Within n (takeB1s n bs).2.length ((takeB1s n bs).1.flatMap V1.ids) ∧ ∀ r ∈ (takeB1s n bs).2, Within n (takeB1s n bs).2.length r.ids := by
  induction bs generalizing n with
  | nil => exact ⟨Within.nil, by simp [takeB1s]⟩
  | cons b bs ih =>
    obtain ⟨h1, h2⟩ := takeB1_ids n b
    obtain ⟨h3, h4⟩ := ih (n + (takeB1 n b).2.length)
    simp only [takeB1s, List.flatMap_cons, List.length_append]
    refine ⟨(h1.mono (Nat.le_refl _) (by omega)).append (h3.mono (by omega) (by omega)), fun r hr => ?_⟩
    rcases List.mem_append.1 hr with hr | hr
    · exact (h2 r hr).mono (Nat.le_refl _) (by omega)
    · exact (h4 r hr).mono (by omega) (by omega)
theorem takeW_ids (n : Nat) (b : BW) : Within n (takeW n b).2.length (takeW n b).1.ids ∧ ∀ r ∈ (takeW n b).2, Within n (takeW n b).2.length r.ids := by
  cases b with
  | one x => exact takeB1_ids n x
  | agg xs => exact takeB1s_ids n xs
theorem takeWs_ids (n : Nat) (bs : List BW) : Within n (takeWs n bs).2.length ((takeWs n bs).1.flatMap W.ids) ∧ ∀ r ∈ (takeWs n bs).2, Within n (takeWs n bs).2.length r.ids := by
  induction bs generalizing n with
  | nil => exact ⟨Within.nil, by simp [takeWs]⟩
  | cons b bs ih =>
    obtain ⟨h1, h2⟩ := takeW_ids n b
    obtain ⟨h3, h4⟩ := ih (n + (takeW n b).2.length)
    simp only [takeWs, List.flatMap_cons, List.length_append]
    refine ⟨(h1.mono (Nat.le_refl _) (by omega)).append (h3.mono (by omega) (by omega)), fun r hr => ?_⟩
    rcases List.mem_append.1 hr with hr | hr
    · exact (h2 r hr).mono (Nat.le_refl _) (by omega)
    · exact (h4 r hr).mono (by omega) (by omega)
theorem takeV_ids (n : Nat) (b : BV) : Within n (takeV n b).2.length (takeV n b).1.ids ∧ ∀ r ∈ (takeV n b).2, Within n (takeV n b).2.length r.ids := by
  cases b with
  | w x => exact takeW_ids n x
  | tup xs => exact takeWs_ids n xs
theorem rget_mem {h : List Root} {n : Nat} (hn : rget h n ≠ .dead) : rget h n ∈ h := by
  unfold rget at *
  cases hq : h[n]? with
  | none => simp [List.getD, hq] at hn
  | some r => simp only [List.getD, hq, Option.getD_some]; exact List.mem_of_getElem? hq
theorem rget_map (k : Nat) (h : List Root) (n : Nat) : rget (h.map (shRoot k)) n = shRoot k (rget h n) := by
  unfold rget
  simp only [List.getD, List.getElem?_map]
  cases h[n]? <;> rfl

section
variable {P : Program} {E : Env} {B : Base} {K : Nat → Prop} {σ : Sig} {A : Nat → Prop} {S : St} {a : Act} {w : World}
structure Back (w w' : World) (A A' : Nat → Prop) (σr : Sig) (r : BV) (u : Value) : Prop where
  heap : RHeap w' A' σr (takeV 0 r).2
  val : RV w' A' σr (takeV 0 r).2 (takeV 0 r).1 u
  ale : ∀ b, A b → A' b
  aup : ∀ b, A' b → A b ∨ w.heap.size ≤ b
  fresh : ∀ n b o, (rget (takeV 0 r).2 n).own = true → σr n = some (b, o) → w.heap.size ≤ b
theorem RS.back (R : RS B K σ A S a w) (hn0 : ∀ n, B.K0 n → K n) {w' : World} {A' : Nat → Prop} {σr : Sig} {r : BV} {u : Value} (hext : Ext w w' fun _ => False) (hb : Back w w' A A' σr r u) {start : Nat} {dst : Option Tmp}
    (hfree : ∀ n, start ≤ n → n < start + (takeV start r).2.length → ¬ K n) :
    ∃ σ', RS B (fun n => K n ∨ (start ≤ n ∧ n < start + (takeV start r).2.length)) σ' A' { tmps := setTmp S.tmps dst (takeV start r).1, heap := puts S.heap start (takeV start r).2 } (a.put dst u) w' := by
  have e := takeV_sh 0 start r
  rw [Nat.zero_add] at e
  have elen : (takeV start r).2.length = (takeV 0 r).2.length := by rw [e]; simp
  obtain ⟨hid1, hid2⟩ := takeV_ids 0 r
  let σ' : Sig := fun n => if start ≤ n ∧ n < start + (takeV 0 r).2.length then σr (n - start) else σ n
  have hsh : ∀ n, n < (takeV 0 r).2.length → Sh start σr σ' (takeV 0 r).2 (puts S.heap start (takeV start r).2) n := fun n hn => by
    constructor
    · rw [rget_puts, if_pos (by omega), e, show n + start - start = n from by omega]; exact rget_map start _ n
    · show (if start ≤ n + start ∧ n + start < start + (takeV 0 r).2.length then σr (n + start - start) else σ (n + start)) = σr n
      rw [if_pos (by omega), show n + start - start = n from by omega]
  have hsig : ∀ n, K n → σ' n = σ n := fun n hn => by
    show (if start ≤ n ∧ n < start + (takeV 0 r).2.length then σr (n - start) else σ n) = σ n
    rw [if_neg]; intro hh; exact hfree n hh.1 (by omega) hn
  have hrn : ∀ q, rget (takeV start r).2 q = shRoot start (rget (takeV 0 r).2 q) := fun q => by rw [e]; exact rget_map start _ q
  have hσn : ∀ q, q < (takeV 0 r).2.length → σ' (start + q) = σr q := fun q hq => by rw [Nat.add_comm]; exact (hsh q hq).2
  have hown : ∀ q, (rget (takeV start r).2 q).own = true → q < (takeV 0 r).2.length := fun q hq => by
    rw [hrn, sh_own] at hq
    rcases Nat.lt_or_ge q (takeV 0 r).2.length with h | h
    · exact h
    · rw [rget_ge h] at hq; cases hq
  refine ⟨σ', R.grow hext hb.ale hb.aup hb.heap.lt hsig (fun n hn => hsig n (hn0 n hn)) hfree ?_ ?_ ?_ ?_ ?_ ?_⟩
  · intro q hq
    rw [elen] at hq
    have := (hb.heap.root q).shift (k := start) (σ' := σ') (h' := puts S.heap start (takeV start r).2) (hsh q hq).2 (fun m hm => by
      by_cases hd : rget (takeV 0 r).2 q = .dead
      · rw [hd] at hm; cases hm
      · have := hid2 _ (rget_mem hd) m hm; exact hsh m (by omega))
    rw [hrn, Nat.add_comm start q]; exact this
  · intro q b o ho hb'
    have hq := hown q ho
    rw [hσn q hq] at hb'
    rw [hrn, sh_own] at ho
    exact ⟨hb.fresh q b o ho hb', hb.heap.off q b o ho hb'⟩
  · intro q m b o o' ho ho' h1 h2
    have hq := hown q ho
    have hm := hown m ho'
    rw [hσn q hq] at h1; rw [hσn m hm] at h2
    rw [hrn, sh_own] at ho ho'
    exact hb.heap.inj q m b o o' ho ho' h1 h2
  · intro q m hm
    have h2 := (takeV_ids start r).2
    by_cases hd : rget (takeV start r).2 q = .dead
    · rw [hd] at hm; cases hm
    · exact .inr (h2 _ (rget_mem hd) m hm)
  · rw [e]; exact RV.shift (fun n hn => by have := hid1 n hn; rw [← e]; exact hsh n (by omega)) hb.val
  · intro n hn; exact .inr ((takeV_ids start r).1 n hn)
end
end Go.Proofs.YtfokmnafgabdiaaGreatDoor.Eng
namespace Go.Proofs.YtfokmnafgabdiaaGreatDoor.Eng
open Go Go.RowKit
set_option linter.unusedVariables false
set_option linter.unusedSimpArgs false

def Owns (σ : Sig) (h : List Root) (b : Nat) : Prop := ∃ n o, (rget h n).own = true ∧ σ n = some (b, o)
def CallOk (P : Program) (call : CallF) : Prop := ∀ g bs r, call g bs = some r →
  (∃ fn, P.funcs[g]? = some fn ∧ fn.name ≠ "runtime.NumGoroutine" ∧ fn.body.isSome = true) ∧
  ∀ (w : World) (A : Nat → Prop) (cargs : Array Value), (takeWs 0 bs).2 = [] → (takeWs 0 bs).1.flatMap W.ids = [] → (∀ b, A b → b < w.heap.size) → Gl w A → All2 (RW w A (fun _ => none) []) (takeWs 0 bs).1 cargs.toList →
    Calls P g cargs w fun e w' => ∃ u σ' A', e = .returned u ∧ Ext w w' (fun _ => False) ∧ Back w w' A A' σ' r u

section
variable {P : Program} {E : Env} {B : Base} {K : Nat → Prop} {σ : Sig} {A : Nat → Prop} {S : St} {a : Act} {w : World}

theorem closeC_ok (R : RS B K σ A S a w) {A2 : Nat → Prop} (hA : ∀ b, A b → A2 b) {x : V1} {c : C} {u : Value} (hall : ∀ n ∈ x.ids, ∀ b o, (rget S.heap n).own = true → σ n = some (b, o) → A2 b) (h1 : closeC S.heap x = some c) (r : RV1 w A σ S.heap x u) : RC w A2 c u := by
  cases x with
  | c x => simp [closeC] at h1; subst h1; exact RC.mono (fun b _ => rfl) hA r
  | nil sz => exact (quietC_ok (A := A2) (h := []) (σ := fun _ => none) (x := .nil sz) h1 r)
  | pt p => simp [closeC] at h1
  | clo g caps => simp [closeC] at h1
  | ref n off len cap =>
    have hroot := R.heap.root n
    obtain ⟨hone, hr⟩ := r
    simp only [closeC] at h1
    have key : ∃ sz rs, (rget S.heap n = .rows sz rs ∨ rget S.heap n = .fro sz rs) ∧ c = .ro sz ((rs.drop off).take len) := by
      cases hq : rget S.heap n with
      | dead => simp [hq, Root.ro?] at h1
      | var cells => simp [hq, Root.ro?] at h1
      | rows sz rs => simp [hq, Root.ro?] at h1; exact ⟨sz, rs, .inl rfl, h1.symm⟩
      | fro sz rs => simp [hq, Root.ro?] at h1; exact ⟨sz, rs, .inr rfl, h1.symm⟩
    obtain ⟨sz, rs, hq, rfl⟩ := key
    obtain ⟨hlen, ad, k, e1, e2, e3, e4⟩ := hr sz rs hq
    have hl : ((rs.drop off).take len).length = len := by simp; omega
    rw [e1]
    have := RC.mk_ro (w := w) (A := A2) (sz := sz) (rows := (rs.drop off).take len) (a := ad) (cap := k) (by rw [hl]; exact e2) (fun r hr => by
      have hr := List.mem_of_mem_drop (List.mem_of_mem_take hr)
      rcases hq with hq | hq <;> rw [hq] at hroot <;> exact hroot.1 r hr) (fun i r j c hi hj => by
        obtain ⟨hi', hil⟩ := get_view hi
        rcases e4 with e4 | ⟨b, o, f1, f2, f3⟩
        · omega
        · refine ⟨b, o + off * sz, ?_⟩
          rw [show o + off * sz + i * sz + j = o + (off + i) * sz + j from by rw [Nat.add_mul]; omega]
          rcases hq with hq | hq
          · have hown : A2 b := hall n (by simp [V1.ids]) b o (by rw [hq]; rfl) f1
            rw [hq] at hroot
            rcases hroot.2 with ⟨g1, g2⟩ | ⟨b', o', arr, T, g1, g2, g3, g4⟩
            · rw [f1] at g1; cases g1
            · rw [f1] at g1; cases g1
              obtain ⟨v, hv, rc⟩ := g4 (off + i) r j c hi' hj
              exact ⟨v, f2, hown, by simp only [World.cell?, g2]; simpa using hv, rc.mono (fun b _ => rfl) hA⟩
          · rw [hq] at hroot
            rcases hroot.2 with ⟨g1, g2⟩ | ⟨b', o', g1, g4⟩
            · rw [f1] at g1; cases g1
            · rw [f1] at g1; cases g1
              obtain ⟨ha, v, hv, rc⟩ := g4 (off + i) r j c hi' hj
              exact ⟨v, f2, hA b ha, hv, rc.mono (fun b _ => rfl) hA⟩)
    rwa [hl] at this
theorem closePt_ok (R : RS B K σ A S a w) {A2 : Nat → Prop} (hA : ∀ b, A b → A2 b) {p : Pt} {cs : List C} {u : Value} {σ' : Sig} (hall : p.ids = [] ∨ ∀ b, Owns σ S.heap b → A2 b) (h1 : closePt S.heap p = some cs) (r : RPt w A σ S.heap p u) : RPt w A2 σ' [] (.rp cs) u := by
  simp only [closePt, Option.map_eq_some_iff] at h1
  obtain ⟨xs, hx, rfl⟩ := h1
  obtain ⟨b, o, us, e, r2, hc, _, hb⟩ := cellsAt_ok R hx r
  refine ⟨b, o, e, fun j c hj => ?_⟩
  simp only [List.getElem?_map, Option.map_eq_some_iff] at hj
  obtain ⟨x, hxj, rfl⟩ := hj
  obtain ⟨v, hv, rv⟩ := r2.get hxj
  have hne : xs ≠ [] := by rintro rfl; simp at hxj
  refine ⟨?_, v, hc j v hv, ?_⟩
  · rcases hb hne with h | ⟨n, o', h1, h2⟩
    · exact hA b h
    · rcases hall with h | h
      · exfalso
        cases p with
        | ptr n i j => simp [Pt.ids] at h
        | rp cells =>
          -- what is read here was there before: nobody of the call's own
          obtain ⟨b2, o2, e2, hc2⟩ := r
          rw [e] at e2; cases e2
          simp only [cellsAt, Option.some.injEq] at hx
          subst hx
          cases cells with
          | nil => exact hne rfl
          | cons c0 cells => exact R.heap.off n b o' h1 h2 (hc2 0 c0 (by simp)).1
      · exact h b ⟨n, o', h1, h2⟩
  · cases hcl : closeC S.heap x with
    | none => exact RC.any rv.one
    | some c =>
      simp only [Option.getD_some]
      refine closeC_ok R hA ?_ hcl rv
      rcases hall with h | h
      · cases p with
        | ptr n i j => simp [Pt.ids] at h
        | rp cells =>
          simp only [cellsAt, Option.some.injEq] at hx
          subst hx
          have := List.mem_of_getElem? hxj
          simp only [List.mem_map] at this
          obtain ⟨c', _, rfl⟩ := this
          intro m hm; cases hm
      · intro m _ b' o'' h1 h2; exact h b' ⟨m, o'', h1, h2⟩
theorem hall_of {A2 : Nat → Prop} {x : V1} (hall : x.ids = [] ∨ ∀ b, Owns σ S.heap b → A2 b) : ∀ n ∈ x.ids, ∀ b o, (rget S.heap n).own = true → σ n = some (b, o) → A2 b := by
  intro n hn b o h1 h2
  rcases hall with h | h
  · rw [h] at hn; cases hn
  · exact h b ⟨n, o, h1, h2⟩
theorem closeRo_ok (R : RS B K σ A S a w) {A2 : Nat → Prop} (hA : ∀ b, A b → A2 b) {x : V1} {b : B1} {u : Value} {σ' : Sig} (n : Nat) (hall : x.ids = [] ∨ ∀ b, Owns σ S.heap b → A2 b) (h1 : closeRo S.heap x = some b) (r : RV1 w A σ S.heap x u) :
    (takeB1 n b).2 = [] ∧ RV1 w A2 σ' [] (takeB1 n b).1 u ∧ (takeB1 n b).1.ids = [] := by
  cases x with
  | pt p =>
    simp only [closeRo, Option.map_eq_some_iff] at h1
    obtain ⟨cs, hcs, rfl⟩ := h1
    exact ⟨rfl, closePt_ok R hA (σ' := σ') hall hcs r, rfl⟩
  | clo g caps =>
    simp only [closeRo, Option.map_eq_some_iff] at h1
    obtain ⟨css, hcs, rfl⟩ := h1
    obtain ⟨us, e, r2⟩ := r
    refine ⟨rfl, ⟨us, e, ?_⟩, ?_⟩
    · have : All2 (fun cs u => RPt w A2 σ' [] (.rp cs) u) css us.toList := r2.mapO hcs fun p cs u hp hc r => closePt_ok R hA (σ' := σ') (by
        rcases hall with h | h
        · left; simp only [V1.ids, List.flatMap_eq_nil_iff] at h; exact h p hp
        · exact .inr h) hc r
      exact this.map fun x u _ r => r
    · simp only [takeB1, V1.ids, List.flatMap_eq_nil_iff, List.mem_map]
      rintro _ ⟨_, _, rfl⟩; rfl
  | c x =>
    simp only [closeRo, Option.map_eq_some_iff] at h1
    obtain ⟨c, hc, rfl⟩ := h1
    exact ⟨rfl, closeC_ok R hA (hall_of hall) hc r, rfl⟩
  | nil sz =>
    simp only [closeRo, Option.map_eq_some_iff] at h1
    obtain ⟨c, hc, rfl⟩ := h1
    exact ⟨rfl, closeC_ok R hA (hall_of hall) hc r, rfl⟩
  | ref m off len cap =>
    simp only [closeRo, Option.map_eq_some_iff] at h1
    obtain ⟨c, hc, rfl⟩ := h1
    exact ⟨rfl, closeC_ok R hA (hall_of hall) hc r, rfl⟩
theorem closeRos_ok (R : RS B K σ A S a w) {A2 : Nat → Prop} (hA : ∀ b, A b → A2 b) {σ' : Sig} : ∀ {xs : List V1} {bs : List B1} {us : List Value} (n : Nat), (xs.flatMap V1.ids = [] ∨ ∀ b, Owns σ S.heap b → A2 b) → mapO (closeRo S.heap) xs = some bs → All2 (RV1 w A σ S.heap) xs us →
    (takeB1s n bs).2 = [] ∧ All2 (RV1 w A2 σ' []) (takeB1s n bs).1 us ∧ (takeB1s n bs).1.flatMap V1.ids = []
  | [], bs, us, n, hall, h1, r => by cases r; simp [mapO_nil] at h1; subst h1; exact ⟨rfl, .nil, rfl⟩
  | x :: xs, bs, us, n, hall, h1, r => by
    cases r with
    | cons r0 r =>
      obtain ⟨b, bs', h2, h3, rfl⟩ := mapO_cons h1
      have ha : x.ids = [] ∨ ∀ b, Owns σ S.heap b → A2 b := by
        rcases hall with h | h
        · left; simp only [List.flatMap_cons, List.append_eq_nil_iff] at h; exact h.1
        · exact .inr h
      have hb : xs.flatMap V1.ids = [] ∨ ∀ b, Owns σ S.heap b → A2 b := by
        rcases hall with h | h
        · left; simp only [List.flatMap_cons, List.append_eq_nil_iff] at h; exact h.2
        · exact .inr h
      obtain ⟨e1, e2, e3⟩ := closeRo_ok R hA (σ' := σ') n ha h2 r0
      obtain ⟨f1, f2, f3⟩ := closeRos_ok R hA (σ' := σ') (n + (takeB1 n b).2.length) hb h3 r
      refine ⟨by simp [takeB1s, e1] at f1 ⊢; exact f1, .cons e2 f2, ?_⟩
      simp only [takeB1s, List.flatMap_cons, e3, f3]; rfl
theorem closeRoWs_ok (R : RS B K σ A S a w) {A2 : Nat → Prop} (hA : ∀ b, A b → A2 b) {σ' : Sig} : ∀ {xs : List W} {bs : List BW} {us : List Value} (n : Nat), (xs.flatMap W.ids = [] ∨ ∀ b, Owns σ S.heap b → A2 b) → mapO (closeRoW S.heap) xs = some bs → All2 (RW w A σ S.heap) xs us →
    (takeWs n bs).2 = [] ∧ All2 (RW w A2 σ' []) (takeWs n bs).1 us ∧ (takeWs n bs).1.flatMap W.ids = []
  | [], bs, us, n, hall, h1, r => by cases r; simp [mapO_nil] at h1; subst h1; exact ⟨rfl, .nil, rfl⟩
  | x :: xs, bs, us, n, hall, h1, r => by
    cases r with
    | cons r0 r =>
      rename_i u0 us
      obtain ⟨b, bs', h2, h3, rfl⟩ := mapO_cons h1
      have ha : x.ids = [] ∨ ∀ b, Owns σ S.heap b → A2 b := by
        rcases hall with h | h
        · left; simp only [List.flatMap_cons, List.append_eq_nil_iff] at h; exact h.1
        · exact .inr h
      have hb : xs.flatMap W.ids = [] ∨ ∀ b, Owns σ S.heap b → A2 b := by
        rcases hall with h | h
        · left; simp only [List.flatMap_cons, List.append_eq_nil_iff] at h; exact h.2
        · exact .inr h
      obtain ⟨f1, f2, f3⟩ := closeRoWs_ok R hA (σ' := σ') (n + (takeW n b).2.length) hb h3 r
      have key : (takeW n b).2 = [] ∧ RW w A2 σ' [] (takeW n b).1 u0 ∧ (takeW n b).1.ids = [] := by
        cases x with
        | one x =>
          simp only [closeRoW, Option.map_eq_some_iff] at h2
          obtain ⟨c, hc, rfl⟩ := h2
          exact closeRo_ok R hA n ha hc r0
        | agg ys =>
          simp only [closeRoW, Option.map_eq_some_iff] at h2
          obtain ⟨c, hc, rfl⟩ := h2
          obtain ⟨us, e, r1⟩ := r0
          obtain ⟨g1, g2, g3⟩ := closeRos_ok R hA (σ' := σ') n ha hc r1
          exact ⟨g1, ⟨us, e, g2⟩, g3⟩
      obtain ⟨e1, e2, e3⟩ := key
      refine ⟨by simp [takeWs, e1] at f1 ⊢; exact f1, .cons e2 f2, ?_⟩
      simp only [takeWs, List.flatMap_cons, e3, f3]; rfl

theorem RC.untie {w' : World} {A' A2 : Nat → Prop} {c : C} {u : Value} (r : RC w' A' c u) : RC w' A2 c.untie u := by
  unfold C.untie
  split
  · rename_i hf
    cases c with
    | lit v => exact RC.lit_iff.2 (RC.lit_iff.1 r)
    | any => exact RC.any r.one
    | err => exact RC.err_iff.2 (RC.err_iff.1 r)
    | ro sz rows =>
      simp [C.flat] at hf
      subst hf
      obtain ⟨ad, cap, e, _⟩ := RC.ro r
      rw [e]
      exact RC.mk_ro (rows := []) (Nat.zero_le _) (by simp) (fun i r j c hi => by simp at hi)
  · exact RC.any r.one
theorem flat_untie {c : C} (h : c.flat = true) : c.untie = c := by unfold C.untie; rw [if_pos h]
theorem rowsUntie_eq (rs : List (List C)) : rowsUntie rs = rs.map (·.map C.untie) := by
  unfold rowsUntie
  split
  · rename_i h
    simp only [List.all_eq_true] at h
    symm
    calc rs.map (·.map C.untie) = rs.map id := List.map_congr_left fun r hr => by
          simp only [id]
          calc r.map C.untie = r.map id := List.map_congr_left fun c hc => flat_untie (h r hr c hc)
            _ = r := List.map_id r
      _ = rs := List.map_id rs
  · rfl
def utV1 : V1 → V1
  | .c x => .c x.untie
  | x => x
def utRoot : Root → Root
  | .rows sz rs => .rows sz (rowsUntie rs)
  | .var cells => .var (cells.map utV1)
  | r => r
def utW : W → W
  | .one x => .one (utV1 x)
  | .agg xs => .agg (xs.map utV1)
def utV : V → V
  | .w x => .w (utW x)
  | .tup xs => .tup (xs.map utW)
  | .dead => .dead
theorem takeB0_un (n : Nat) (b : B0) : takeB0 n b.untie = (utV1 (takeB0 n b).1, (takeB0 n b).2.map utRoot) := by
  cases b with
  | c x => rfl
  | own sz rs cap => simp [B0.untie, takeB0, utV1, utRoot, rowsUntie_eq]
theorem takeB0s_un (n : Nat) (bs : List B0) : takeB0s n (bs.map B0.untie) = ((takeB0s n bs).1.map utV1, (takeB0s n bs).2.map utRoot) := by
  induction bs generalizing n with
  | nil => rfl
  | cons b bs ih => simp only [List.map_cons, takeB0s, takeB0_un, List.length_map, ih, List.map_append]
theorem takeB1_un (n : Nat) (b : B1) (ht : b.untie.tied = false) : takeB1 n b.untie = (utV1 (takeB1 n b).1, (takeB1 n b).2.map utRoot) := by
  cases b with
  | b x => exact takeB0_un n x
  | pv cells => simp only [B1.untie, takeB1, takeB0s_un]; rfl
  | rp cells => simp [B1.untie, B1.tied] at ht
  | clo g caps => rfl
theorem takeB1s_un (n : Nat) (bs : List B1) (ht : (bs.map B1.untie).any B1.tied = false) : takeB1s n (bs.map B1.untie) = ((takeB1s n bs).1.map utV1, (takeB1s n bs).2.map utRoot) := by
  induction bs generalizing n with
  | nil => rfl
  | cons b bs ih =>
    simp only [List.map_cons, List.any_cons, Bool.or_eq_false_iff] at ht
    simp only [List.map_cons, takeB1s, takeB1_un n b ht.1, List.length_map, ih _ ht.2, List.map_append]
theorem takeW_un (n : Nat) (b : BW) (ht : b.untie.tied = false) : takeW n b.untie = (utW (takeW n b).1, (takeW n b).2.map utRoot) := by
  cases b with
  | one x => simp only [BW.untie, takeW, takeB1_un n x ht]; rfl
  | agg xs => simp only [BW.untie, takeW, takeB1s_un n xs ht]; rfl
theorem takeWs_un (n : Nat) (bs : List BW) (ht : (bs.map BW.untie).any BW.tied = false) : takeWs n (bs.map BW.untie) = ((takeWs n bs).1.map utW, (takeWs n bs).2.map utRoot) := by
  induction bs generalizing n with
  | nil => rfl
  | cons b bs ih =>
    simp only [List.map_cons, List.any_cons, Bool.or_eq_false_iff] at ht
    simp only [List.map_cons, takeWs, takeW_un n b ht.1, List.length_map, ih _ ht.2, List.map_append]
theorem takeV_un (n : Nat) (b : BV) (ht : b.untie.tied = false) : takeV n b.untie = (utV (takeV n b).1, (takeV n b).2.map utRoot) := by
  cases b with
  | w x => simp only [BV.untie, takeV, takeW_un n x ht]; rfl
  | tup xs => simp only [BV.untie, takeV, takeWs_un n xs ht]; rfl

section
variable {w' : World} {A' A2 : Nat → Prop} {σ' : Sig} {h : List Root}
theorem rget_mapUt (h : List Root) (n : Nat) : rget (h.map utRoot) n = utRoot (rget h n) := by
  unfold rget
  simp only [List.getD, List.getElem?_map]
  cases h[n]? <;> rfl
theorem ut_own {r : Root} : (utRoot r).own = r.own := by cases r <;> rfl
theorem noFro {h : List Root} {sz : Nat} {rs : List (List C)} {n : Nat} (hq : rget (h.map utRoot) n = .fro sz rs) : rget h n = .fro sz rs := by
  rw [rget_mapUt] at hq
  cases hr : rget h n <;> rw [hr] at hq <;> simp [utRoot] at hq
  simp [hq]
theorem utRows {h : List Root} {sz : Nat} {rs : List (List C)} {n : Nat} (hq : rget (h.map utRoot) n = .rows sz rs) : ∃ rs', rget h n = .rows sz rs' ∧ rs = rs'.map (·.map C.untie) := by
  rw [rget_mapUt] at hq
  cases hr : rget h n with
  | rows sz' rs' => rw [hr] at hq; simp [utRoot] at hq; obtain ⟨rfl, rfl⟩ := hq; exact ⟨rs', rfl, rowsUntie_eq rs'⟩
  | dead => rw [hr] at hq; simp [utRoot] at hq
  | var c => rw [hr] at hq; simp [utRoot] at hq
  | fro a b => rw [hr] at hq; simp [utRoot] at hq
theorem RV1.ut {x : V1} {u : Value} (hrp : ∀ cells, x ≠ .pt (.rp cells)) (hclo : ∀ g caps, x = .clo g caps → caps = []) (r : RV1 w' A' σ' h x u) : RV1 w' A2 σ' (h.map utRoot) (utV1 x) u := by
  cases x with
  | c x => exact RC.untie r
  | nil sz => exact r
  | ref n off len cap =>
    refine ⟨r.1, fun sz rs hq => ?_⟩
    have key : ∃ rs', (rget h n = .rows sz rs' ∨ rget h n = .fro sz rs') ∧ rs.length = rs'.length ∧ (rget (h.map utRoot) n = .rows sz rs → rget h n = .rows sz rs') := by
      rcases hq with hq | hq
      · obtain ⟨rs', e, rfl⟩ := utRows hq; exact ⟨rs', .inl e, by simp, fun _ => e⟩
      · exact ⟨rs, .inr (noFro hq), rfl, fun e => by rw [hq] at e; cases e⟩
    obtain ⟨rs', hq', hl, hrow⟩ := key
    obtain ⟨h1, a, k, h2, h3, h4, h5⟩ := r.2 sz rs' hq'
    refine ⟨by omega, a, k, h2, h3, h4, ?_⟩
    rcases h5 with h5 | ⟨b, o, g1, g2, g3⟩
    · exact .inl h5
    · exact .inr ⟨b, o, g1, g2, fun e => g3 (hrow e)⟩
  | pt p => cases p with
    | rp cells => exact absurd rfl (hrp cells)
    | ptr n i j =>
      obtain ⟨h1, h2, h3⟩ := r
      refine ⟨h1, fun cells hc => ?_, fun sz rs hc => ?_⟩
      · rw [rget_mapUt] at hc
        cases hr : rget h n with
        | var c => exact h2 c hr
        | dead => rw [hr] at hc; simp [utRoot] at hc
        | rows _ _ => rw [hr] at hc; simp [utRoot] at hc
        | fro _ _ => rw [hr] at hc; simp [utRoot] at hc
      · rcases hc with hc | hc
        · obtain ⟨rs', e, _⟩ := utRows hc; exact h3 sz rs' (.inl e)
        · exact h3 sz rs (.inr (noFro hc))
  | clo g caps =>
    have := hclo g caps rfl
    subst this
    obtain ⟨us, e, r2⟩ := r
    cases hu : us.toList with
    | nil => rw [hu] at r2; exact ⟨us, e, by rw [hu]; exact .nil⟩
    | cons a b => rw [hu] at r2; cases r2
def FineV1 (x : V1) : Prop := (∀ cells, x ≠ .pt (.rp cells)) ∧ ∀ g caps, x = .clo g caps → caps = []
theorem takeB0_fine (n : Nat) (b : B0) : FineV1 (takeB0 n b).1 := by cases b <;> exact ⟨fun _ h => (by cases h), fun _ _ h => (by cases h)⟩
theorem takeB0s_fine (n : Nat) (bs : List B0) : ∀ x ∈ (takeB0s n bs).1, FineV1 x := by
  induction bs generalizing n with
  | nil => simp [takeB0s]
  | cons b bs ih =>
    intro x hx
    simp only [takeB0s, List.mem_cons] at hx
    rcases hx with rfl | hx
    · exact takeB0_fine n b
    · exact ih _ x hx
theorem takeB1_fine (n : Nat) (b : B1) (ht : b.untie.tied = false) : FineV1 (takeB1 n b).1 ∧ ∀ r ∈ (takeB1 n b).2, ∀ cells, r = .var cells → ∀ x ∈ cells, FineV1 x := by
  cases b with
  | b x => exact ⟨takeB0_fine n x, fun r hr cells e => by subst e; cases x <;> simp [takeB1, takeB0] at hr⟩
  | pv cells =>
    refine ⟨⟨fun _ h => (by cases h), fun _ _ h => (by cases h)⟩, fun r hr cs e => ?_⟩
    subst e
    simp only [takeB1, List.mem_cons] at hr
    rcases hr with hr | hr
    · cases hr; exact takeB0s_fine (n + 1) cells
    · exfalso
      have : ∀ (bs : List B0) (m : Nat), ∀ r ∈ (takeB0s m bs).2, ∀ c, r ≠ .var c := by
        intro bs
        induction bs with
        | nil => intro m r hr; simp [takeB0s] at hr
        | cons b bs ih =>
          intro m r hr c
          simp only [takeB0s, List.mem_append] at hr
          rcases hr with hr | hr
          · cases b <;> simp [takeB0] at hr
            subst hr; simp
          · exact ih _ r hr c
      exact this cells (n + 1) _ hr cs rfl
  | rp cells => simp [B1.untie, B1.tied] at ht
  | clo g caps =>
    refine ⟨⟨fun _ h => (by cases h), fun g' caps' h => ?_⟩, by simp [takeB1]⟩
    cases h
    simp [B1.untie, B1.tied] at ht
    simp [ht]
theorem takeB1s_fine (n : Nat) (bs : List B1) (ht : (bs.map B1.untie).any B1.tied = false) : (∀ x ∈ (takeB1s n bs).1, FineV1 x) ∧ ∀ r ∈ (takeB1s n bs).2, ∀ cells, r = .var cells → ∀ x ∈ cells, FineV1 x := by
  induction bs generalizing n with
  | nil => simp [takeB1s]
  | cons b bs ih =>
    simp only [List.map_cons, List.any_cons, Bool.or_eq_false_iff] at ht
    obtain ⟨h1, h2⟩ := takeB1_fine n b ht.1
    obtain ⟨h3, h4⟩ := ih (n + (takeB1 n b).2.length) ht.2
    simp only [takeB1s]
    refine ⟨fun x hx => ?_, fun r hr => ?_⟩
    · simp only [List.mem_cons] at hx
      rcases hx with rfl | hx
      · exact h1
      · exact h3 x hx
    · rcases List.mem_append.1 hr with hr | hr
      · exact h2 r hr
      · exact h4 r hr
def FineW : W → Prop
  | .one x => FineV1 x
  | .agg xs => ∀ x ∈ xs, FineV1 x
theorem takeW_fine (n : Nat) (b : BW) (ht : b.untie.tied = false) : FineW (takeW n b).1 ∧ ∀ r ∈ (takeW n b).2, ∀ cells, r = .var cells → ∀ x ∈ cells, FineV1 x := by
  cases b with
  | one x => exact takeB1_fine n x ht
  | agg xs => exact takeB1s_fine n xs ht
theorem takeWs_fine (n : Nat) (bs : List BW) (ht : (bs.map BW.untie).any BW.tied = false) : (∀ x ∈ (takeWs n bs).1, FineW x) ∧ ∀ r ∈ (takeWs n bs).2, ∀ cells, r = .var cells → ∀ x ∈ cells, FineV1 x := by
  induction bs generalizing n with
  | nil => simp [takeWs]
  | cons b bs ih =>
    simp only [List.map_cons, List.any_cons, Bool.or_eq_false_iff] at ht
    obtain ⟨h1, h2⟩ := takeW_fine n b ht.1
    obtain ⟨h3, h4⟩ := ih (n + (takeW n b).2.length) ht.2
    simp only [takeWs]
    refine ⟨fun x hx => ?_, fun r hr => ?_⟩
    · simp only [List.mem_cons] at hx
      rcases hx with rfl | hx
      · exact h1
      · exact h3 x hx
    · rcases List.mem_append.1 hr with hr | hr
      · exact h2 r hr
      · exact h4 r hr
def FineV : V → Prop
  | .w x => FineW x
  | .tup xs => ∀ x ∈ xs, FineW x
  | .dead => True
theorem takeV_fine (n : Nat) (b : BV) (ht : b.untie.tied = false) : FineV (takeV n b).1 ∧ ∀ r ∈ (takeV n b).2, ∀ cells, r = .var cells → ∀ x ∈ cells, FineV1 x := by
  cases b with
  | w x => exact takeW_fine n x ht
  | tup xs => exact takeWs_fine n xs ht
theorem RW.ut {x : W} {u : Value} (hf : FineW x) (r : RW w' A' σ' h x u) : RW w' A2 σ' (h.map utRoot) (utW x) u := by
  cases x with
  | one x => exact RV1.ut hf.1 hf.2 r
  | agg xs =>
    obtain ⟨us, e, r2⟩ := r
    exact ⟨us, e, r2.map fun x u hx r => RV1.ut (hf x hx).1 (hf x hx).2 r⟩
theorem RV.ut {x : V} {u : Value} (hf : FineV x) (r : RV w' A' σ' h x u) : RV w' A2 σ' (h.map utRoot) (utV x) u := by
  cases x with
  | w x => exact RW.ut hf r
  | tup xs =>
    obtain ⟨us, e, r2⟩ := r
    exact ⟨us, e, r2.map fun x u hx r => RW.ut (hf x hx) r⟩
  | dead => trivial
theorem RHeap.ut (H : RHeap w' A' σ' h) (hf : ∀ r ∈ h, ∀ cells, r = .var cells → ∀ x ∈ cells, FineV1 x) (hnf : ∀ n sz rs, rget h n ≠ .fro sz rs) (hle : ∀ b, A2 b → A' b) : RHeap w' A2 σ' (h.map utRoot) := by
  refine ⟨fun n => ?_, fun n m b o o' h1 h2 => ?_, fun n b o h1 h2 hb => ?_, fun b hb => H.lt b (hle b hb)⟩
  · rw [rget_mapUt]
    have hr := H.root n
    cases hq : rget h n with
    | dead => trivial
    | var cells =>
      rw [hq] at hr
      obtain ⟨b, o, arr, T, e1, e2, e3, e4⟩ := hr
      refine ⟨b, o, arr, T, e1, e2, by simpa using e3, fun j x hx => ?_⟩
      simp only [List.getElem?_map, Option.map_eq_some_iff] at hx
      obtain ⟨y, hy, rfl⟩ := hx
      obtain ⟨v, hv, r⟩ := e4 j y hy
      have hm : (Root.var cells) ∈ h := by rw [← hq]; exact rget_mem (by rw [hq]; simp)
      have := hf _ hm cells rfl y (List.mem_of_getElem? hy)
      exact ⟨v, hv, RV1.ut this.1 this.2 r⟩
    | rows sz rs =>
      rw [hq] at hr
      refine ⟨fun r hr' => ?_, ?_⟩
      · rw [rowsUntie_eq] at hr'
        simp only [List.mem_map] at hr'
        obtain ⟨r0, h0, rfl⟩ := hr'
        simpa using hr.1 r0 h0
      · rcases hr.2 with ⟨e1, e2⟩ | ⟨b, o, arr, T, e1, e2, e3, e4⟩
        · exact .inl ⟨e1, by rw [rowsUntie_eq, e2]; rfl⟩
        · refine .inr ⟨b, o, arr, T, e1, e2, by rw [rowsUntie_eq]; simpa using e3, fun i r j c hi hj => ?_⟩
          rw [rowsUntie_eq] at hi
          simp only [List.getElem?_map, Option.map_eq_some_iff] at hi
          obtain ⟨r0, h0, rfl⟩ := hi
          simp only [List.getElem?_map, Option.map_eq_some_iff] at hj
          obtain ⟨c0, hc0, rfl⟩ := hj
          obtain ⟨v, hv, r⟩ := e4 i r0 j c0 h0 hc0
          exact ⟨v, hv, r.untie⟩
    | fro sz rs => exact absurd hq (hnf n sz rs)
  · rw [rget_mapUt, ut_own] at h1 h2; exact H.inj n m b o o' h1 h2
  · rw [rget_mapUt, ut_own] at h1; exact H.off n b o h1 h2 (hle b hb)
theorem takeB0_nofro (n : Nat) (b : B0) : ∀ r ∈ (takeB0 n b).2, ∀ sz rs, r ≠ .fro sz rs := by cases b <;> simp [takeB0]
theorem takeB0s_nofro (n : Nat) (bs : List B0) : ∀ r ∈ (takeB0s n bs).2, ∀ sz rs, r ≠ .fro sz rs := by
  induction bs generalizing n with
  | nil => simp [takeB0s]
  | cons b bs ih => intro r hr; rcases List.mem_append.1 hr with hr | hr; exact takeB0_nofro n b r hr; exact ih _ r hr
theorem takeB1_nofro (n : Nat) (b : B1) : ∀ r ∈ (takeB1 n b).2, ∀ sz rs, r ≠ .fro sz rs := by
  cases b with
  | b x => exact takeB0_nofro n x
  | pv cells => intro r hr sz rs; simp only [takeB1, List.mem_cons] at hr; rcases hr with rfl | hr; simp; exact takeB0s_nofro _ cells r hr sz rs
  | rp cells => simp [takeB1]
  | clo g caps => simp [takeB1]
theorem takeB1s_nofro (n : Nat) (bs : List B1) : ∀ r ∈ (takeB1s n bs).2, ∀ sz rs, r ≠ .fro sz rs := by
  induction bs generalizing n with
  | nil => simp [takeB1s]
  | cons b bs ih => intro r hr; rcases List.mem_append.1 hr with hr | hr; exact takeB1_nofro n b r hr; exact ih _ r hr
theorem takeW_nofro (n : Nat) (b : BW) : ∀ r ∈ (takeW n b).2, ∀ sz rs, r ≠ .fro sz rs := by
  cases b with
  | one x => exact takeB1_nofro n x
  | agg xs => exact takeB1s_nofro n xs
theorem takeWs_nofro (n : Nat) (bs : List BW) : ∀ r ∈ (takeWs n bs).2, ∀ sz rs, r ≠ .fro sz rs := by
  induction bs generalizing n with
  | nil => simp [takeWs]
  | cons b bs ih => intro r hr; rcases List.mem_append.1 hr with hr | hr; exact takeW_nofro n b r hr; exact ih _ r hr
theorem takeV_nofro (n : Nat) (b : BV) : ∀ r ∈ (takeV n b).2, ∀ sz rs, r ≠ .fro sz rs := by
  cases b with
  | w x => exact takeW_nofro n x
  | tup xs => exact takeWs_nofro n xs
end

theorem callee_ok (R : RS B K σ A S a w) {c : Call} {g : FuncId} {ws : List W} (h : calleeOf E S.tmps c = some (g, ws)) {o : Oper} (ho : o.op = .call c) {fn : Func} (hfn : P.funcs[g]? = some fn) (hnm : fn.name ≠ "runtime.NumGoroutine") (hbd : fn.body.isSome = true) :
    ∃ cargs : Array Value, (execOp a.eval o).run P w = .ok (.enter g cargs) w ∧ All2 (RW w A σ S.heap) ws cargs.toList ∧ ∀ n ∈ ws.flatMap W.ids, K n := by
  unfold calleeOf at h
  split at h
  · rename_i f hc
    split at h
    · rename_i g' caps hf
      split at h
      · rename_i hsz
        split at h
        · rename_i vs hvs
          split at h
          · rename_i ws' hws
            simp at h; obtain ⟨rfl, rfl⟩ := h
            obtain ⟨rf, kf⟩ := opd_ok R hf
            obtain ⟨us, eu, r2⟩ := rf
            have r := opds_ok R hvs
            have hz : (c.argTypes.toList.zip c.args.toList).map (fun p => a.eval p.2) = c.args.toList.map a.eval := by
              have : ∀ (l : List TypeId) (m : List Operand), m.length ≤ l.length → (l.zip m).map (fun p => a.eval p.2) = m.map a.eval := by
                intro l
                induction l with
                | nil => intro m hm; cases m; rfl; simp at hm
                | cons x l ih => intro m hm; cases m with
                  | nil => rfl
                  | cons y m => simp only [List.zip_cons_cons, List.map_cons]; rw [ih m (by simpa using hm)]
              exact this _ _ (by simp; omega)
            rw [hz] at r
            refine ⟨c.args.map a.eval ++ us, ?_, ?_, ?_⟩
            · have e1 : fn.body.isNone = false := by cases hb : fn.body <;> simp_all
              simp only [execOp, ho, resolve, hc, eu, Deferred.ofValue, Sem.run_bind, Sem.run_pure, Result.andThen_ok, invoke, callFunc, run_program, hfn]
              rw [if_neg (by simpa using hnm), if_neg (by simp [e1])]
              simp
            · rw [Array.toList_append, Array.toList_map]
              refine All2.append ?_ ?_
              · exact r.mapO hws fun x y u _ hy r => by
                  cases x with
                  | w x => simp [argW, V.w?] at hy; subst hy; exact r.1
                  | tup xs => simp [argW, V.w?] at hy
                  | dead => simp [argW, V.w?] at hy
              · exact r2.map fun x u _ r => r
            · intro n hn
              simp only [List.flatMap_append, List.mem_append] at hn
              rcases hn with hn | hn
              · simp only [List.mem_flatMap] at hn
                obtain ⟨x, hx, hn⟩ := hn
                obtain ⟨j, hj⟩ := List.getElem?_of_mem hx
                obtain ⟨v, hv, hvw⟩ := mapO_get hws hj
                obtain ⟨u, _, _, kv⟩ := r.get hv
                cases v with
                | w y => simp [argW, V.w?] at hvw; subst hvw; exact kv n hn
                | tup xs => simp [argW, V.w?] at hvw
                | dead => simp [argW, V.w?] at hvw
              · simp only [List.mem_flatMap, List.mem_map] at hn
                obtain ⟨x, ⟨p, hp, rfl⟩, hn⟩ := hn
                exact kf n (by simp only [V.ids, W.ids, V1.ids, List.mem_flatMap]; exact ⟨p, hp, hn⟩)
          · cases h
        · cases h
      · cases h
    · cases h
  · cases h
theorem wTouches_false {ws : List W} (h : ws.any wTouches = false) : ws.flatMap W.ids = [] := by
  simp only [List.any_eq_false] at h
  simp only [List.flatMap_eq_nil_iff]
  intro x hx
  have := h x hx
  have hv1 : ∀ y : V1, touches y = false → y.ids = [] := by
    intro y hy
    cases y with
    | c x => rfl
    | nil sz => rfl
    | ref n off len cap => simp [touches] at hy
    | pt p => cases p with
      | ptr n i j => simp [touches] at hy
      | rp cells => rfl
    | clo g caps =>
      simp only [touches, List.any_eq_false] at hy
      simp only [V1.ids, List.flatMap_eq_nil_iff]
      intro p hp
      have := hy p hp
      cases p with
      | ptr n i j => simp at this
      | rp cells => rfl
  cases x with
  | one y => exact hv1 y (by simpa [wTouches] using this)
  | agg ys =>
    simp only [wTouches, Bool.not_eq_true, List.any_eq_false] at this
    simp only [W.ids, List.flatMap_eq_nil_iff]
    intro y hy; exact hv1 y (by simpa using this y hy)
theorem RS.of_heap {h : List Root} (hgl : Gl w A) (H : RHeap w A σ h) : ∃ B, ∃ a : Act, RS B (fun _ => True) σ A { tmps := [], heap := h } a w :=
  ⟨⟨w, Owns σ h, A, σ, fun _ => True, h, hgl, fun b hb ⟨n, o, h1, h2⟩ => H.off n b o h1 h2 hb⟩, { tmps := #[], defers := [] }, H, .nil, fun x hx => (by cases hx), fun _ _ _ => trivial, fun _ h => absurd trivial h, Ext.refl w _, fun _ h => h, fun _ h => .inl h, fun n b o h1 h2 => .inl ⟨n, o, h1, h2⟩, fun _ _ => rfl, rfl, fun _ _ => trivial, fun _ _ => Compat.refl _⟩

def Lies (h : List Root) (n : Nat) (rs : List Root) : Prop := ∀ k, k < rs.length → rget h (n + k) = rget rs k
theorem Lies.left {h : List Root} {n : Nat} {rs rs' : List Root} (l : Lies h n (rs ++ rs')) : Lies h n rs := fun k hk => by
  rw [l k (by simp; omega)]; simp only [rget, List.getD, List.getElem?_append_left hk]
theorem Lies.right {h : List Root} {n : Nat} {rs rs' : List Root} (l : Lies h n (rs ++ rs')) : Lies h (n + rs.length) rs' := fun k hk => by
  rw [Nat.add_assoc, l (rs.length + k) (by simp; omega)]; simp only [rget, List.getD]; rw [List.getElem?_append_right (by omega)]; congr 2; omega
theorem closePt_rp (h : List Root) (cells : List C) : closePt h (.rp cells) = some cells := by
  simp only [closePt, cellsAt, Option.map_some, List.map_map]
  congr 1
  exact (List.map_congr_left (g := id) fun c _ => rfl).trans (List.map_id _)
theorem toRo1_close {h : List Root} {n : Nat} {b : B1} (hb : b.noPv = true) (l : Lies h n (takeB1 n b).2) : closeRo h (takeB1 n b).1 = some b.toRo := by
  cases b with
  | b x => cases x with
    | c x => rfl
    | own sz rs cap =>
      have := l 0 (by simp [takeB1, takeB0])
      simp only [takeB1, takeB0, Nat.add_zero] at this
      simp only [takeB1, takeB0, closeRo, closeC, this]
      simp [rget, Root.ro?, B1.toRo, B0.toRo]
  | pv cells => simp [B1.noPv] at hb
  | rp cells => simp only [takeB1, closeRo, closePt_rp]; rfl
  | clo g caps =>
    simp only [takeB1, closeRo]
    have : ∀ caps : List (List C), mapO (closePt h) (caps.map Pt.rp) = some caps := by
      intro caps
      induction caps with
      | nil => rfl
      | cons c caps ih => simp only [List.map_cons, mapO, closePt_rp, ih]
    rw [this]; rfl
theorem toRos_close {h : List Root} : ∀ {n : Nat} {bs : List B1}, bs.all B1.noPv = true → Lies h n (takeB1s n bs).2 → mapO (closeRo h) (takeB1s n bs).1 = some (bs.map B1.toRo)
  | n, [], _, _ => rfl
  | n, b :: bs, hb, l => by
    simp only [List.all_cons, Bool.and_eq_true] at hb
    simp only [takeB1s] at l
    simp only [takeB1s, mapO, toRo1_close hb.1 l.left, toRos_close hb.2 l.right, List.map_cons]
theorem toRoW_close {h : List Root} {n : Nat} {b : BW} (hb : b.noPv = true) (l : Lies h n (takeW n b).2) : closeRoW h (takeW n b).1 = some b.toRo := by
  cases b with
  | one x => simp only [takeW, closeRoW, toRo1_close (b := x) hb l]; rfl
  | agg xs => simp only [takeW, closeRoW, toRos_close (bs := xs) hb l]; rfl
theorem toRoWs_close {h : List Root} : ∀ {n : Nat} {bs : List BW}, bs.all BW.noPv = true → Lies h n (takeWs n bs).2 → mapO (closeRoW h) (takeWs n bs).1 = some (bs.map BW.toRo)
  | n, [], _, _ => rfl
  | n, b :: bs, hb, l => by
    simp only [List.all_cons, Bool.and_eq_true] at hb
    simp only [takeWs] at l
    simp only [takeWs, mapO, toRoW_close hb.1 l.left, toRoWs_close hb.2 l.right, List.map_cons]
theorem Back.toRo {w' : World} {A3 : Nat → Prop} {σ' : Sig} {r : BV} {u : Value} (hgl : Gl w' A3) (hb : Back w w' A A3 σ' r u) (hn : r.noPv = true) : ∃ A4, Back w w' A A4 σ' r.toRo u := by
  obtain ⟨B, a, R⟩ := RS.of_heap hgl hb.heap
  let A4 : Nat → Prop := fun b => A3 b ∨ Owns σ' (takeV 0 r).2 b
  have hl : Lies (takeV 0 r).2 0 (takeV 0 r).2 := fun k hk => by rw [Nat.zero_add]
  have key : (takeV 0 r.toRo).2 = [] ∧ RV w' A4 σ' [] (takeV 0 r.toRo).1 u := by
    have hv := hb.val
    cases r with
    | w x =>
      have hc := toRoW_close (b := x) hn hl
      have h1 : mapO (closeRoW (takeW 0 x).2) [(takeW 0 x).1] = some [x.toRo] := by simp only [mapO]; rw [show closeRoW (takeW 0 x).2 (takeW 0 x).1 = some x.toRo from hc]
      obtain ⟨g1, g2, g3⟩ := closeRoWs_ok R (A2 := A4) (σ' := σ') (fun _ h => .inl h) 0 (.inr fun b h => .inr h) (us := [u]) h1 (.cons hv .nil)
      simp only [takeWs, List.append_nil] at g1 g2
      cases g2 with
      | cons g2 _ => exact ⟨g1, g2⟩
    | tup xs =>
      obtain ⟨us, e, r2⟩ := hv
      obtain ⟨g1, g2, g3⟩ := closeRoWs_ok R (A2 := A4) (σ' := σ') (fun _ h => .inl h) 0 (.inr fun b h => .inr h) (toRoWs_close (bs := xs) hn hl) r2
      exact ⟨g1, us, e, g2⟩
  refine ⟨A4, ?_, ?_, fun b h => .inl (hb.ale b h), fun b h => ?_, fun n b o h1 => ?_⟩
  · rw [key.1]
    refine ⟨fun n => (by rw [rget_nil]; trivial), fun n m b o o' h1 => (by rw [rget_nil] at h1; cases h1), fun n b o h1 => (by rw [rget_nil] at h1; cases h1), fun b h => ?_⟩
    rcases h with h | ⟨n, o, h1, h2⟩
    · exact hb.heap.lt b h
    · exact R.lt h1 h2
  · rw [key.1]; exact key.2
  · rcases h with h | ⟨n, o, h1, h2⟩
    · exact hb.aup b h
    · exact .inr (hb.fresh n b o h1 h2)
  · rw [key.1, rget_nil] at h1; cases h1

theorem quietCall_ok {call' : CallF} (HC : CallOk P call') (R : RS B K σ A S a w) (hn0 : ∀ n, B.K0 n → K n) {c : Call} {start : Nat} {v : V} {new : List Root} {o : Oper} (ho : o.op = .call c)
    (h : quietCall E call' S.tmps S.heap start c = some (v, new)) (hfree : ∀ n, start ≤ n → n < start + new.length → ¬ K n) {next : Act → World → Prop} {Q : Exit → Act → World → Prop}
    (hnext : ∀ u w' σ' A', RS B (fun n => K n ∨ (start ≤ n ∧ n < start + new.length)) σ' A' { tmps := setTmp S.tmps o.dst v, heap := puts S.heap start new } (a.put o.dst u) w' → next (a.put o.dst u) w') :
    o.wp P a w next Q := by
  unfold quietCall at h
  split at h
  · rename_i g ws hcal
    split at h
    · cases h
    · split at h
      · rename_i bs hbs
        split at h
        · rename_i r hr
          replace h : (if (ws.any wTouches && (if ws.any wTouches = true then r.untie else r).tied) = true then none else imp (E.roImp g) start (if ws.any wTouches = true then r.untie else r)) = some (v, new) := h
          by_cases htie : (ws.any wTouches && (if ws.any wTouches = true then r.untie else r).tied) = true
          · rw [if_pos htie] at h; cases h
          · rw [if_neg htie] at h
            -- the callee's view of memory
            let A2 : Nat → Prop := fun b => A b ∨ (ws.any wTouches = true ∧ Owns σ S.heap b)
            have hall : ws.flatMap W.ids = [] ∨ ∀ b, Owns σ S.heap b → A2 b := by
              cases ht : ws.any wTouches with
              | false => exact .inl (wTouches_false ht)
              | true => exact .inr fun b hb => .inr ⟨ht, hb⟩
            have hlt : ∀ b, A2 b → b < w.heap.size := fun b hb => by
              rcases hb with hb | ⟨_, n, o', h1, h2⟩
              · exact R.heap.lt b hb
              · exact R.lt h1 h2
            obtain ⟨⟨fn, hfn, hnm, hbd⟩, hcalls⟩ := HC g bs r hr
            obtain ⟨cargs, hrun, rargs, kargs⟩ := callee_ok R hcal ho hfn hnm hbd
            obtain ⟨e1, e2, e3⟩ := closeRoWs_ok R (A2 := A2) (fun b hb => .inl hb) (σ' := fun _ => none) 0 hall hbs rargs
            have hg2 : Gl w A2 := R.gl.more fun b hb => .inl hb
            have hC := hcalls w A2 cargs e1 e3 hlt hg2 e2
            unfold Oper.wp
            rw [hrun, Oper.upon_enter]
            refine hC.mono ?_
            rintro e w' ⟨u, σ', A', rfl, hext, hp⟩
            have hback : ∃ A3, Back w w' A A3 σ' (if ws.any wTouches then r.untie else r) u := by
              cases ht : ws.any wTouches with
              | false =>
                refine ⟨A', by simpa using hp.heap, by simpa using hp.val, fun b hb => hp.ale b (.inl hb), fun b hb => ?_, by simpa using hp.fresh⟩
                rcases hp.aup b hb with (h1 | ⟨h1, _⟩) | h1
                · exact .inl h1
                · rw [ht] at h1; cases h1
                · exact .inr h1
              | true =>
                have htie' : r.untie.tied = false := by simpa [ht] using htie
                have hfv := takeV_fine 0 r htie'
                have hut := takeV_un 0 r htie'
                refine ⟨fun b => A b ∨ (w.heap.size ≤ b ∧ A' b), ?_, ?_, fun b hb => .inl hb, fun b hb => ?_, ?_⟩
                · simp only [if_true]; rw [hut]
                  exact hp.heap.ut hfv.2 (fun n sz rs hq => takeV_nofro 0 r _ (rget_mem (by rw [hq]; simp)) sz rs hq) fun b hb => by
                    rcases hb with hb | hb
                    · exact hp.ale b (.inl hb)
                    · exact hb.2
                · simp only [if_true]; rw [hut]; exact RV.ut hfv.1 hp.val
                · rcases hb with hb | hb
                  · exact .inl hb
                  · exact .inr hb.1
                · simp only [if_true]; rw [hut]
                  intro n b o h1 h2
                  rw [rget_mapUt, ut_own] at h1
                  exact hp.fresh n b o h1 h2
            obtain ⟨A3, hback⟩ := hback
            by_cases hri : E.roImp g = true
            · rw [imp, if_pos hri] at h
              by_cases hnp : (if ws.any wTouches = true then r.untie else r).noPv = true
              · rw [if_pos hnp] at h
                obtain ⟨A4, hback⟩ := hback.toRo (R.gl.ext hext (fun _ _ h => h) hback.ale) hnp
                simp only [Option.some.injEq] at h
                have hvn : v = (takeV start (if ws.any wTouches = true then r.untie else r).toRo).1 ∧ new = (takeV start (if ws.any wTouches = true then r.untie else r).toRo).2 := by rw [h]; exact ⟨rfl, rfl⟩
                obtain ⟨rfl, rfl⟩ := hvn
                obtain ⟨σ'', hR⟩ := R.back hn0 hext hback (dst := o.dst) hfree
                exact hnext u w' σ'' A4 hR
              · rw [if_neg hnp] at h; cases h
            · rw [imp, if_neg hri] at h
              simp only [Option.some.injEq] at h
              have hvn : v = (takeV start (if ws.any wTouches = true then r.untie else r)).1 ∧ new = (takeV start (if ws.any wTouches = true then r.untie else r)).2 := by rw [h]; exact ⟨rfl, rfl⟩
              obtain ⟨rfl, rfl⟩ := hvn
              obtain ⟨σ'', hR⟩ := R.back hn0 hext hback (dst := o.dst) hfree
              exact hnext u w' σ'' A3 hR
        · cases h
      · cases h
  · cases h
end
end Go.Proofs.YtfokmnafgabdiaaGreatDoor.Eng
namespace Go.Proofs.YtfokmnafgabdiaaGreatDoor.Eng
open Go Go.RowKit
set_option linter.unusedVariables false
set_option linter.unusedSimpArgs false

section
variable {P : Program} {E : Env} {B : Base} {K : Nat → Prop} {σ : Sig} {A : Nat → Prop} {S : St} {a : Act} {w : World}

def Goes (B : Base) (K : Nat → Prop) (S : St) (a : Act) (dst : Option Tmp) (next : Act → World → Prop) : Prop := ∀ u w σ A, RS B K σ A S (a.put dst u) w → next (a.put dst u) w
theorem wp_of_value {o : Oper} {u : Value} {w' : World} {next : Act → World → Prop} {Q : Exit → Act → World → Prop} (h : (execOp a.eval o).run P w = .ok (.value u) w') (hn : next (a.put o.dst u) w') : o.wp P a w next Q := by
  unfold Oper.wp; rw [h]; exact hn
theorem wp_of_skip {o : Oper} {w' : World} {next : Act → World → Prop} {Q : Exit → Act → World → Prop} (h : (execOp a.eval o).run P w = .ok .skip w') (hn : next (a.put o.dst undef) w') : o.wp P a w next Q := by
  unfold Oper.wp; rw [h]; exact hn
theorem evQ_ok (EO : EnvOk P E) (EQ : ∀ t, E.eqOk t = true → EqTy P t) {call : CallF} (HC : CallOk P call) (R : RS B K σ A S a w) (hn0 : ∀ n, B.K0 n → K n) {start : Nat} {v : V} {new : List Root} {o : Oper}
    (h : evQ E call S.tmps S.heap start o.type o.op = some (v, new)) (hfree : ∀ n, start ≤ n → n < start + new.length → ¬ K n) {next : Act → World → Prop} {Q : Exit → Act → World → Prop}
    (hnext : Goes B (fun n => K n ∨ (start ≤ n ∧ n < start + new.length)) { tmps := setTmp S.tmps o.dst v, heap := puts S.heap start new } a o.dst next) : o.wp P a w next Q := by
  have hfin : ∀ {z : V} {nw : List Root}, Grows P B K S a w o start z nw → z = v → nw = new → o.wp P a w next Q := by
    rintro z nw ⟨u, w', σ', A', hrun, hR⟩ rfl rfl
    exact wp_of_value hrun (hnext _ _ _ _ hR)
  have hs : new ≠ [] → ¬ K start := fun hne => hfree start (Nat.le_refl _) (by cases new with | nil => exact absurd rfl hne | cons x l => simp)
  have hval : ∀ {s : Sem Next}, execOp a.eval o = s → (new = [] ∧ Val P K σ A S w s v) → o.wp P a w next Q := by
    rintro s rfl ⟨rfl, hv⟩
    exact hfin (hv.grows R) rfl rfl
  cases hop : o.op with
  | move x =>
    rw [hop] at h
    simp only [evQ, Option.map_eq_some_iff, Prod.mk.injEq] at h
    obtain ⟨q, hq, rfl, rfl⟩ := h
    exact hval (by simp only [execOp, hop]) ⟨rfl, move_ok R hq⟩
  | assign x =>
    rw [hop] at h
    simp only [evQ, Option.map_eq_some_iff, Prod.mk.injEq] at h
    obtain ⟨q, hq, rfl, rfl⟩ := h
    exact hval (by simp only [execOp, hop]) ⟨rfl, move_ok R hq⟩
  | pick c x y =>
    rw [hop] at h
    simp only [evQ] at h
    split at h
    · rename_i p u z hc hx hy
      simp at h; obtain ⟨rfl, rfl⟩ := h
      simp only [Option.bind_eq_some_iff] at hc
      obtain ⟨q, hq, hp⟩ := hc
      exact hval (by simp only [execOp, hop]) ⟨rfl, pick_ok R hq hp hx hy⟩
    · cases h
  | alloc t => rw [hop] at h; exact hfin (alloc_ok EO R hn0 hop hs h) rfl rfl
  | box t x => rw [hop] at h; exact hfin (box_ok EO R hn0 hop hs h) rfl rfl
  | build t parts => rw [hop] at h; exact hval (by simp only [execOp, hop]) (build_ok EO R h)
  | buildSlice t len parts => rw [hop] at h; exact hfin (buildSlice_ok EO R hn0 hop hs h) rfl rfl
  | load t x =>
    rw [hop] at h
    simp only [evQ] at h
    split at h
    · rename_i i p hi hp
      simp only [Option.bind_eq_some_iff] at hp
      obtain ⟨v0, h0, hp⟩ := hp
      split at h
      · rename_i cs hcs
        simp only [Option.map_eq_some_iff, Prod.mk.injEq] at h
        obtain ⟨q, hq, rfl, rfl⟩ := h
        exact hval (by simp only [execOp, hop]) ⟨rfl, load_ok EO R hi h0 hp hcs hq⟩
      · cases h
    · cases h
  | binOp op t x y yt =>
    rw [hop] at h
    simp only [evQ] at h
    split at h
    · rename_i u z hx hy
      simp only [Option.map_eq_some_iff, Prod.mk.injEq] at h
      obtain ⟨q, hq, rfl, rfl⟩ := h
      exact hval (by simp only [execOp, hop]) ⟨rfl, binOp_ok EO EQ R hx hy hq⟩
    · cases h
  | unOp op t x =>
    rw [hop] at h
    simp only [evQ] at h
    split at h
    · rename_i u hx
      simp only [Option.map_eq_some_iff, Prod.mk.injEq] at h
      obtain ⟨q, hq, rfl, rfl⟩ := h
      exact hval (by simp only [execOp, hop]) ⟨rfl, unOp_ok R hx hq⟩
    · cases h
  | convert src dst x => rw [hop] at h; exact hval (by simp only [execOp, hop]) (conv_ok EO R (s := default) (d := default) (v := default) h)
  | makeFunc fn first captured =>
    rw [hop] at h
    cases fn with
    | func g =>
      simp only [evQ] at h
      split at h
      · rename_i hf
        split at h
        · rename_i vs hvs
          simp only [Option.map_eq_some_iff, Prod.mk.injEq] at h
          obtain ⟨ps, hps, rfl, rfl⟩ := h
          exact hval (by simp only [execOp, hop]) ⟨rfl, makeFunc_ok R hvs hps first hf⟩
        · cases h
      · cases h
    | method name => simp [evQ] at h
    | methodOf t name => simp [evQ] at h
    | via t path f pointer => simp [evQ] at h
    | yield l => simp [evQ] at h
  | makeSlice t len cap => rw [hop] at h; exact hfin (makeSlice_ok EO R hn0 hop hs h) rfl rfl
  | slice t x lo hi mx => rw [hop] at h; exact hval (by simp only [execOp, hop]) (slice_ok EO R h)
  | fieldAddr t x f => rw [hop] at h; exact hval (by simp only [execOp, hop]) (fieldAddr_ok EO R h)
  | field t x f => rw [hop] at h; exact hval (by simp only [execOp, hop]) (field_ok EO R h)
  | indexAddr t x ix => rw [hop] at h; exact hval (by simp only [execOp, hop]) (indexAddr_ok EO R h)
  | index t x ix => rw [hop] at h; exact hval (by simp only [execOp, hop]) (index_ok EO R h)
  | nilCheck x => rw [hop] at h; exact hval rfl (nilCheck_ok R hop h)
  | extract x i => rw [hop] at h; exact hval (by simp only [execOp, hop]) (extract_ok R h)
  | call c =>
    rw [hop] at h
    cases hc : c.callee with
    | builtin b =>
      cases b
      case len => exact hval rfl (len_ok EO R hop hc h)
      case cap => exact hval rfl (cap_ok EO R hop hc h)
      case max => exact hval rfl (max_ok R hop hc h)
      case min => exact hval rfl (min_ok R hop hc h)
      all_goals (simp [evQ, hc] at h)
    | value f =>
      simp only [evQ, hc] at h
      exact quietCall_ok HC R hn0 hop h hfree fun u w' σ' A' hR => hnext _ _ _ _ hR
    | invoke r m => simp [evQ, hc] at h
  | _ => rw [hop] at h; simp [evQ] at h

theorem storeCells_ok (T : TypeId) (b : Nat) : ∀ (vs : List Value) (o i : Nat) (cur : Array Value) (w : World), w.heap[b]? = some (.cells cur T (0, 0)) → o + i + vs.length ≤ cur.size → (∀ v ∈ vs, v.oneCell' = true) →
    ∃ w', (storeCells ⟨b, o, none⟩ vs i).run P w = .ok () w' ∧ (∃ cur', w'.heap[b]? = some (.cells cur' T (0, 0)) ∧ cur'.toList = cur.toList.take (o + i) ++ vs ++ cur.toList.drop (o + i + vs.length)) ∧ Ext w w' (fun k => k = b)
  | [], o, i, cur, w, hb, hl, h1 => ⟨w, by simp [storeCells], ⟨cur, hb, by simp⟩, Ext.refl w _⟩
  | v :: vs, o, i, cur, w, hb, hl, h1 => by
    simp only [List.length_cons] at hl
    have hcell : w.cell? ⟨b, o + i, none⟩ = some cur[o + i] := by simp [World.cell?, hb, show o + i < cur.size from by omega]
    have hfz : w.frozen? ⟨b, o + i, none⟩ = false := by simp [World.frozen?, hb]
    have hst : (store ((⟨b, o, none⟩ : Addr).add i) v).run P w = .ok () (w.setCell ⟨b, o + i, none⟩ v) := by
      rw [addr_add, run_store P w _ v _ (h1 v (by simp)), hcell]
      simp [hfz]
    obtain ⟨w', e1, ⟨cur', e2, e3⟩, e4⟩ := storeCells_ok T b vs o (i + 1) (cur.setIfInBounds (o + i) v) (w.setCell ⟨b, o + i, none⟩ v) (heap_setCell_at w b (o + i) v hb) (by simp; omega) (fun x hx => h1 x (by simp [hx]))
    refine ⟨w', ?_, ⟨cur', e2, ?_⟩, ?_⟩
    · simp only [storeCells, Sem.run_bind]
      rw [hst]; exact e1
    · rw [e3]
      simp only [Array.toList_setIfInBounds, List.length_cons]
      have hl' : o + i < cur.toList.length := by simp; omega
      apply List.ext_getElem?
      intro j
      simp only [List.getElem?_append, List.length_append, List.length_take, List.length_set, List.getElem?_take, List.getElem?_drop, List.getElem?_set, List.getElem?_cons, List.length_cons]
      have hs : cur.toList.length = cur.size := by simp
      by_cases c1 : j < o + i
      · rw [if_pos (by omega), if_pos (by omega), if_pos (by omega), if_neg (by omega), if_pos (by omega), if_pos (by omega), if_pos c1]
      · by_cases c2 : j = o + i
        · subst c2
          rw [if_pos (by omega), if_pos (by omega), if_pos (by omega), if_pos rfl, if_pos (by omega), if_pos (by omega), if_neg (by omega), if_pos (by omega)]
        · by_cases c3 : j < o + i + 1 + vs.length
          · rw [if_pos (by omega), if_neg (by omega), if_pos (by omega), if_neg (by omega), if_neg (by omega)]
            congr 1; omega
          · rw [if_neg (by omega), if_neg (by omega), if_neg (by omega)]
            congr 1; omega
    · exact (Ext.setCell w b (o + i) v (O := fun k => k = b) rfl).trans (e4.mono fun k _ hk => .inl hk)

theorem RS.write (R : RS B K σ A S a w) {w' : World} {b : Nat} {n : Nat} {h' : List Root} {dst : Option Tmp} {v : V} {u : Value} {o : Nat}
    (hn : (rget S.heap n).own = true) (hσ : σ n = some (b, o)) (hext : Ext w w' fun k => k = b)
    {A' : Nat → Prop} (hA : ∀ b', A b' → A' b') (hA' : ∀ b', A' b' → A b' ∨ ∃ m o', m ≠ n ∧ (rget S.heap m).own = true ∧ (rget h' m).own = false ∧ σ m = some (b', o'))
    (hoth : ∀ m, m ≠ n → rget h' m = rget S.heap m ∨ rget h' m = .dead)
    (hcompat : Compat (rget S.heap n) (rget h' n)) (hK : (rget h' n).own = true → K n)
    (hroot : RRoot w' A' σ h' n (rget h' n)) (hids : ∀ m ∈ (rget h' n).ids, K m)
    (hv : RV w' A' σ h' v u) (hvids : ∀ m ∈ v.ids, K m) :
    RS B K σ A' { tmps := setTmp S.tmps dst v, heap := h' } (a.put dst u) w' := by
  have hblt := R.lt hn hσ
  have hbA : ¬ A b := R.heap.off n b o hn hσ
  have hwA : ∀ b', A b' → w'.heap[b']? = w.heap[b']? := fun b' hb' => hext.block b' (R.heap.lt b' hb') (fun e => hbA (e ▸ hb'))
  have hst : ∀ m, Stays w w' σ σ S.heap h' m := fun m => by
    refine ⟨rfl, ?_, fun b' o' _ _ => hext.wide b'⟩
    by_cases hm : m = n
    · subst hm; exact hcompat
    · rcases hoth m hm with e | e <;> rw [e]
      · exact Compat.refl _
      · trivial
  have hownsub : ∀ m, (rget h' m).own = true → (rget S.heap m).own = true := fun m ho => by
    by_cases hm : m = n
    · subst hm; exact hn
    · rcases hoth m hm with e | e
      · rw [e] at ho; exact ho
      · rw [e] at ho; cases ho
  refine ⟨⟨fun m => ?_, ?_, ?_, ?_⟩, ?_, ?_, ?_, ?_, R.ext.trans (hext.mono fun k hk e => ?_), fun b' hb' => hA b' (R.ale b' hb'), ?_, ?_, R.sig0, by rw [put_defers]; exact R.defers, R.k0, fun m hm => (R.comp m hm).trans (hst m).compat⟩
  · by_cases hm : m = n
    · subst hm; exact hroot
    · rcases hoth m hm with e | e
      · rw [e]
        refine (R.heap.root m).stays hwA hA rfl (fun b' o' ho hs => hext.block b' (R.lt ho hs) fun e' => ?_) fun q _ => hst q
        subst e'
        exact hm (R.heap.inj m n b' o' o ho hn hs hσ)
      · rw [e]; trivial
  · intro m q b' o1 o2 h1 h2; exact R.heap.inj m q b' o1 o2 (hownsub m h1) (hownsub q h2)
  · intro m b' o' h1 h2 hb'
    rcases hA' b' hb' with h3 | ⟨q, o'', h3, h4, h5, h6⟩
    · exact R.heap.off m b' o' (hownsub m h1) h2 h3
    · have := R.heap.inj m q b' o' o'' (hownsub m h1) h4 h2 h6
      subst this; rw [h5] at h1; cases h1
  · intro b' hb'
    rcases hA' b' hb' with h3 | ⟨q, o'', h3, h4, h5, h6⟩
    · exact Nat.lt_of_lt_of_le (R.heap.lt b' h3) hext.size
    · exact Nat.lt_of_lt_of_le (R.lt h4 h6) hext.size
  · exact All2.setTmp (R.tmps.mono fun x u hx r => r.stays hwA hA fun m _ => hst m) dst hv
  · intro x hx m hm
    rcases mem_setTmp hx with rfl | hx
    · exact hvids m hm
    · exact R.known x hx m hm
  · intro m q hq
    by_cases hm : m = n
    · subst hm; exact hids q hq
    · rcases hoth m hm with e | e
      · rw [e] at hq; exact R.knownH m q hq
      · rw [e] at hq; cases hq
  · intro m hm
    by_cases e : m = n
    · subst e
      cases hq : rget h' m with
      | dead => rfl
      | var c => exact absurd (hK (by rw [hq]; rfl)) hm
      | rows s c => exact absurd (hK (by rw [hq]; rfl)) hm
      | fro s c => have := R.dead m hm; rw [this] at hn; cases hn
    · rcases hoth m e with e | e
      · rw [e]; exact R.dead m hm
      · exact e
  · subst e
    rcases R.own n k o hn hσ with h | h
    · exact .inl h
    · exact .inr h
  · intro b' hb'
    rcases hA' b' hb' with h3 | ⟨q, o'', h3, h4, h5, h6⟩
    · exact R.aup b' h3
    · rcases R.own q b' o'' h4 h6 with h | h
      · exact .inr (.inl h)
      · exact .inr (.inr h)
  · intro m b' o' h1 h2; exact R.own m b' o' (hownsub m h1) h2
end
end Go.Proofs.YtfokmnafgabdiaaGreatDoor.Eng
namespace Go.Proofs.YtfokmnafgabdiaaGreatDoor.Eng
open Go Go.RowKit
set_option linter.unusedVariables false
set_option linter.unusedSimpArgs false

theorem over_get {α : Type} (l vs : List α) (p q : Nat) (h : p + vs.length ≤ l.length) : (l.take p ++ vs ++ l.drop (p + vs.length))[q]? = if q < p then l[q]? else if q < p + vs.length then vs[q - p]? else l[q]? := by
  simp only [List.getElem?_append, List.length_append, List.length_take, List.getElem?_take, List.getElem?_drop]
  by_cases c1 : q < p
  · rw [if_pos (by omega), if_pos (by omega), if_pos c1, if_pos c1]
  · by_cases c2 : q < p + vs.length
    · rw [if_pos (by omega), if_neg (by omega), if_neg c1, if_pos c2]; congr 1; omega
    · rw [if_neg (by omega), if_neg c1, if_neg c2]; congr 1; omega
theorem splice_get {α : Type} {l l' xs : List α} {j : Nat} (h : splice l j xs = some l') (m : Nat) : l'[m]? = (if m < j then l[m]? else if m < j + xs.length then xs[m - j]? else l[m]?) ∧ j + xs.length ≤ l.length ∧ l'.length = l.length := by
  unfold splice at h
  split at h
  · rename_i hl
    simp at h; subst h
    refine ⟨?_, hl, by simp; omega⟩
    rw [← List.append_assoc]; exact over_get l xs j m hl
  · cases h
def refsOf (xs : List V1) : List Nat := xs.filterMap fun | .ref n _ _ _ => some n | _ => none
theorem rget_kill (xs : List V1) : ∀ (h : List Root) (m : Nat), rget (killV1s h xs) m = if m ∈ refsOf xs then .dead else rget h m := by
  induction xs with
  | nil => intro h m; simp [killV1s, refsOf]
  | cons x xs ih =>
    intro h m
    have : killV1s h (x :: xs) = killV1s (killV1 h x) xs := rfl
    rw [this, ih]
    cases x with
    | ref n off len cap =>
      have e : refsOf (V1.ref n off len cap :: xs) = n :: refsOf xs := rfl
      rw [e]
      simp only [killV1, rget_put, List.mem_cons]
      by_cases h1 : m ∈ refsOf xs
      · simp [h1]
      · by_cases h2 : m = n <;> simp [h1, h2]
    | c x => rfl
    | nil sz => rfl
    | pt p => rfl
    | clo g caps => rfl
section
variable {P : Program} {E : Env} {B : Base} {K : Nat → Prop} {σ : Sig} {A : Nat → Prop} {S : St} {a : Act} {w : World}
theorem closeCs_refs {h : List Root} {xs : List V1} {cs : List C} (hc : closeCs h xs = some cs) : ∀ x ∈ xs, ∀ n ∈ x.ids, n ∈ refsOf xs := by
  intro x hx n hn
  obtain ⟨j, hj⟩ := List.getElem?_of_mem hx
  have hl := mapO_length hc
  have hjl : j < cs.length := by rw [hl]; rcases Nat.lt_or_ge j xs.length with h | h; exact h; simp [List.getElem?_eq_none h] at hj
  obtain ⟨x', hx', hcx⟩ := mapO_get hc (j := j) (y := cs[j]) (by simp [hjl])
  rw [hj] at hx'; cases hx'
  simp only [refsOf, List.mem_filterMap]
  cases x with
  | ref m off len cap => simp [V1.ids] at hn; subst hn; exact ⟨_, hx, rfl⟩
  | c x => simp [V1.ids] at hn
  | nil sz => simp [V1.ids] at hn
  | pt p => simp [closeC] at hcx
  | clo g caps => simp [closeC] at hcx
theorem store_ok (EO : EnvOk P E) (R : RS B K σ A S a w) {t : TypeId} {ad x : Operand} {i : TI} {p : Pt} {v0 v1 : V} {xs : List V1} {h' : List Root} {o : Oper} {t0 t1 : TypeId} (ho : o.op = .store t ad x)
    (hi : E.ty t = some i) (h0 : opd E S.tmps t0 ad = some v0) (hp : ptrOf v0 = some p) (h1 : opd E S.tmps t1 x = some v1) (hx : v1.cells = some xs) (hlen : xs.length = i.size) (hst : storeAt S.heap p xs = some h')
    {next : Act → World → Prop} {Q : Exit → Act → World → Prop} (hnext : Goes B K { tmps := setTmp S.tmps o.dst (.tup []), heap := h' } a o.dst next) : o.wp P a w next Q := by
  obtain ⟨r0, k0⟩ := opd_ok R h0
  obtain ⟨rp, ids0⟩ := ptrOf_ok hp r0
  obtain ⟨r1, k1⟩ := opd_ok R h1
  obtain ⟨rx, kx⟩ := vcells_ok hx r1
  have hsize : (a.eval x).cells.toList.length = xs.length := rx.length
  have hone : ∀ u ∈ (a.eval x).cells.toList, u.oneCell' = true := fun u hu => by
    obtain ⟨j, hj⟩ := List.getElem?_of_mem hu
    have hjl : j < xs.length := by rw [← hsize]; rcases Nat.lt_or_ge j (a.eval x).cells.toList.length with h | h; exact h; simp [List.getElem?_eq_none h] at hj
    obtain ⟨u', hu', r⟩ := rx.get (j := j) (x := xs[j]) (by simp [hjl])
    rw [hj] at hu'; cases hu'; exact r.one
  have hrun : ∀ (b oo : Nat) (w' : World), a.eval ad = .pointer (some ⟨b, oo, none⟩) → (storeCells ⟨b, oo, none⟩ (a.eval x).cells.toList 0).run P w = .ok () w' → (execOp a.eval o).run P w = .ok .skip w' := by
    intro b oo w' e hs
    simp only [execOp, ho, Instr.storeAt, e, Instr.sureAddr, Sem.run_bind, Sem.run_pure, Result.andThen_ok, storeVar, (EO.ty _ _ hi).size w]
    rw [if_neg (by simp at hsize; omega)]
    rw [hs]; rfl
  have hkx : ∀ x ∈ xs, ∀ n ∈ x.ids, K n := fun y hy n hn => k1 n (kx n (by simp only [List.mem_flatMap]; exact ⟨y, hy, hn⟩))
  cases p with
  | rp cells => simp [storeAt] at hst
  | ptr n ii j =>
    obtain ⟨_, hv, hr⟩ := rp
    have hKn : K n := k0 n (by rw [ids0]; simp [Pt.ids])
    have hroot := R.heap.root n
    simp only [storeAt] at hst
    cases hq : rget S.heap n with
    | dead => rw [hq] at hst; cases hst
    | fro sz rs => rw [hq] at hst; cases hst
    | var cells =>
      rw [hq] at hst hroot
      simp only at hst
      split at hst
      · simp only [Option.map_eq_some_iff] at hst
        obtain ⟨cs, hcs, rfl⟩ := hst
        obtain ⟨b, oo, e1, e2⟩ := hv cells hq
        obtain ⟨b', o', arr, T, f1, f2, f3, f4⟩ := hroot
        rw [e1] at f1; cases f1
        obtain ⟨_, hle, hcl⟩ := splice_get hcs 0
        obtain ⟨w', s1, ⟨arr', s2, s3⟩, s4⟩ := storeCells_ok (P := P) T b (a.eval x).cells.toList (oo + j) 0 arr w f2 (by omega) hone
        have hown : (rget S.heap n).own = true := by rw [hq]; rfl
        have hne : ∀ b', A b' → w'.heap[b']? = w.heap[b']? := fun b' hb' => s4.block b' (R.heap.lt b' hb') fun e => R.heap.off n b oo hown e1 (e ▸ hb')
        have hself : rget (put S.heap n (.var cs)) n = .var cs := rget_put_self _ _ _
        have hstay : ∀ m, Stays w w' σ σ S.heap (put S.heap n (.var cs)) m := fun m => by
          refine ⟨rfl, ?_, fun b' o' _ _ => s4.wide b'⟩
          by_cases hm : m = n
          · subst hm; rw [hself, hq]; exact ⟨cells, rfl⟩
          · rw [rget_put_ne _ _ hm]; exact Compat.refl _
        refine wp_of_skip (hrun b (oo + j) w' e2 s1) (hnext _ _ σ A ?_)
        refine R.write (b := b) (n := n) (o := oo) hown e1 s4 (fun _ h => h) (fun _ h => .inl h) (fun m hm => .inl (rget_put_ne _ _ hm)) ?_ (fun _ => hKn) ?_ ?_ (show RV w' A σ _ (.tup []) undef from ⟨#[], rfl, .nil⟩) (by simp [V.ids])
        · rw [hself, hq]; exact ⟨cells, rfl⟩
        · rw [hself]
          refine ⟨b, oo, arr', T, e1, s2, ?_, fun m y hy => ?_⟩
          · have := congrArg List.length s3
            simp at this; omega
          · rw [(splice_get hcs m).1] at hy
            rw [← Array.getElem?_toList, s3, Nat.add_zero, over_get _ _ _ _ (by simp at hsize ⊢; omega)]
            split at hy
            · rw [if_pos (by omega)]
              obtain ⟨v, hv, r⟩ := f4 m y hy
              exact ⟨v, by simpa using hv, r.stays hne (fun _ h => h) fun q _ => hstay q⟩
            · split at hy
              · rw [if_neg (by omega), if_pos (by omega)]
                obtain ⟨v, hv, r⟩ := rx.get hy
                exact ⟨v, by rw [show oo + m - (oo + j) = m - j from by omega]; exact hv, r.stays hne (fun _ h => h) fun q _ => hstay q⟩
              · rw [if_neg (by omega), if_neg (by omega)]
                obtain ⟨v, hv, r⟩ := f4 m y hy
                exact ⟨v, by simpa using hv, r.stays hne (fun _ h => h) fun q _ => hstay q⟩
        · rw [hself]
          intro m hm
          simp only [Root.ids, List.mem_flatMap] at hm
          obtain ⟨y, hy, hm⟩ := hm
          rcases splice_mem hcs hy with hy | hy
          · exact R.knownH n m (by rw [hq]; simp only [Root.ids, List.mem_flatMap]; exact ⟨y, hy, hm⟩)
          · exact hkx y hy m hm
      · cases hst
    | rows sz rs =>
      rw [hq] at hst hroot
      simp only at hst
      split at hst
      · rename_i cs hcs
        split at hst
        · rename_i sz1 rs1 hq2
          split at hst
          · rename_i row hrow
            simp only [Option.map_eq_some_iff] at hst
            obtain ⟨row', hsp, rfl⟩ := hst
            have hnk : n ∉ refsOf xs := by
              intro hm; rw [rget_kill, if_pos hm] at hq2; cases hq2
            have hq3 := hq2
            rw [rget_kill, if_neg hnk, hq] at hq3
            cases hq3
            obtain ⟨b, oo, e1, e2⟩ := hr sz rs (.inl hq)
            rcases hroot.2 with ⟨f1, _⟩ | ⟨b', o', arr, T, f1, f2, f3, f4⟩
            · rw [e1] at f1; cases f1
            · rw [e1] at f1; cases f1
              have hown : (rget S.heap n).own = true := by rw [hq]; rfl
              obtain ⟨_, hle, hcl⟩ := splice_get hsp 0
              have hrl : row.length = sz := hroot.1 row (List.mem_of_getElem? hrow)
              have hil : ii < rs.length := by rcases Nat.lt_or_ge ii rs.length with h | h; exact h; simp [List.getElem?_eq_none h] at hrow
              have hcsl : cs.length = xs.length := mapO_length hcs
              have hmul : (ii + 1) * sz ≤ rs.length * sz := Nat.mul_le_mul_right _ hil
              rw [Nat.add_mul] at hmul
              obtain ⟨w', s1, ⟨arr', s2, s3⟩, s4⟩ := storeCells_ok (P := P) T b (a.eval x).cells.toList (oo + ii * sz + j) 0 arr w f2 (by omega) hone
              let h2 := put (killV1s S.heap xs) n (.rows sz (rs.set ii row'))
              let A' : Nat → Prop := fun b' => A b' ∨ ∃ m o', m ∈ refsOf xs ∧ m ≠ n ∧ (rget S.heap m).own = true ∧ σ m = some (b', o')
              have hself : rget h2 n = .rows sz (rs.set ii row') := rget_put_self _ _ _
              have hoth : ∀ m, m ≠ n → rget h2 m = if m ∈ refsOf xs then .dead else rget S.heap m := fun m hm => by
                show rget (put _ _ _) m = _
                rw [rget_put_ne _ _ hm, rget_kill]
              have hAb : ∀ b', A' b' → b' ≠ b := by
                rintro b' (h | ⟨m, o', h1, h2, h3, h4⟩) rfl
                · exact R.heap.off n b' oo hown e1 h
                · exact h2 (R.heap.inj m n b' o' oo h3 hown h4 e1)
              have hAlt : ∀ b', A' b' → b' < w.heap.size := by
                rintro b' (h | ⟨m, o', h1, h2, h3, h4⟩)
                · exact R.heap.lt b' h
                · exact R.lt h3 h4
              have hne : ∀ b', A' b' → w'.heap[b']? = w.heap[b']? := fun b' hb' => s4.block b' (hAlt b' hb') (hAb b' hb')
              refine wp_of_skip (hrun b (oo + ii * sz + j) w' e2 s1) (hnext _ _ σ A' ?_)
              refine R.write (b := b) (n := n) (o := oo) (h' := h2) hown e1 s4 (fun _ h => .inl h) (fun b' h => ?_) (fun m hm => ?_) ?_ (fun _ => hKn) ?_ ?_ (show RV w' A' σ _ (.tup []) undef from ⟨#[], rfl, .nil⟩) (by simp [V.ids])
              · rcases h with h | ⟨m, o', h1, h3, h4, h5⟩
                · exact .inl h
                · exact .inr ⟨m, o', h3, h4, by rw [hoth m h3, if_pos h1]; rfl, h5⟩
              · rw [hoth m hm]
                split
                · exact .inr rfl
                · exact .inl rfl
              · rw [hself, hq]; exact ⟨rs, rfl, by simp⟩
              · rw [hself]
                refine ⟨fun r hr => ?_, .inr ⟨b, oo, arr', T, e1, s2, ?_, fun i' r q c hi' hq' => ?_⟩⟩
                · rcases List.mem_or_eq_of_mem_set hr with hr | rfl
                  · exact hroot.1 r hr
                  · rw [hcl, hrl]
                · have := congrArg List.length s3
                  simp at this ⊢; omega
                · rw [← Array.getElem?_toList, s3, Nat.add_zero, over_get _ _ _ _ (by simp at hsize ⊢; omega)]
                  have hold : ∀ (i'' : Nat) (r' : List C) (q' : Nat) (c' : C), rs[i'']? = some r' → r'[q']? = some c' → ∃ v, arr.toList[oo + i'' * sz + q']? = some v ∧ RC w' A' c' v := fun i'' r' q' c' g1 g2 => by
                    obtain ⟨v, hv, rc⟩ := f4 i'' r' q' c' g1 g2
                    exact ⟨v, by simpa using hv, rc.mono (fun b' hb' => hne b' (.inl hb')) fun _ h => .inl h⟩
                  by_cases hii : i' = ii
                  · subst hii
                    rw [List.getElem?_set_self hil] at hi'
                    simp at hi'; subst hi'
                    rw [(splice_get hsp q).1] at hq'
                    split at hq'
                    · rw [if_pos (by omega)]; exact hold i' row q c hrow hq'
                    · split at hq'
                      · rw [if_neg (by omega), if_pos (by omega)]
                        obtain ⟨y, hy, hyc⟩ := mapO_get hcs hq'
                        obtain ⟨v, hv, r⟩ := rx.get hy
                        refine ⟨v, by rw [show oo + i' * sz + q - (oo + i' * sz + j) = q - j from by omega]; exact hv, ?_⟩
                        have hyx : y ∈ xs := List.mem_of_getElem? hy
                        have := closeC_ok R (A2 := A') (fun _ h => .inl h) (fun m hm b'' o'' g1 g2 => .inr ⟨m, o'', closeCs_refs hcs y hyx m hm, fun e => hnk (e ▸ closeCs_refs hcs y hyx m hm), g1, g2⟩) hyc r
                        exact this.mono hne fun _ h => h
                      · rw [if_neg (by omega), if_neg (by omega)]; exact hold i' row q c hrow hq'
                  · rw [List.getElem?_set_ne (fun e => hii e.symm)] at hi'
                    have hrl' := hroot.1 r (List.mem_of_getElem? hi')
                    have hql : q < sz := by rw [← hrl']; rcases Nat.lt_or_ge q r.length with h | h; exact h; simp [List.getElem?_eq_none h] at hq'
                    rcases Nat.lt_or_ge i' ii with hlt | hge
                    · have h7 : (i' + 1) * sz ≤ ii * sz := Nat.mul_le_mul_right _ hlt
                      rw [Nat.add_mul] at h7
                      rw [if_pos (by omega)]; exact hold i' r q c hi' hq'
                    · have h7 : (ii + 1) * sz ≤ i' * sz := Nat.mul_le_mul_right _ (by omega)
                      rw [Nat.add_mul] at h7
                      rw [if_neg (by omega), if_neg (by omega)]; exact hold i' r q c hi' hq'
              · rw [hself]; intro m hm; simp [Root.ids] at hm
          · cases hst
        · cases hst
      · cases hst
end
end Go.Proofs.YtfokmnafgabdiaaGreatDoor.Eng
namespace Go.Proofs.YtfokmnafgabdiaaGreatDoor.Eng
open Go Go.RowKit
set_option linter.unusedVariables false
set_option linter.unusedSimpArgs false

section
variable {P : Program} {E : Env} {B : Base} {K : Nat → Prop} {σ : Sig} {A : Nat → Prop} {S : St} {a : Act} {w : World}

theorem flat_one {sz : Nat} {rows : List (List C)} {vs : Array Value} (h : Flat w A sz rows vs) (hs : vs.size = rows.length * sz) : ∀ v ∈ vs.toList, v.oneCell' = true := by
  intro v hv
  obtain ⟨m, hm⟩ := List.getElem?_of_mem hv
  have hml : m < rows.length * sz := by rw [← hs]; rcases Nat.lt_or_ge m vs.toList.length with h | h; simpa using h; simp [List.getElem?_eq_none h] at hm
  have hsz : 0 < sz := by rcases Nat.eq_zero_or_pos sz with h | h; subst h; simp at hml; exact h
  have hi : m / sz < rows.length := Nat.div_lt_of_lt_mul (by rw [Nat.mul_comm]; exact hml)
  have hj : m % sz < sz := Nat.mod_lt _ hsz
  have hl := h.1 rows[m / sz] (List.getElem_mem hi)
  obtain ⟨v', hv', r⟩ := h.2 (m / sz) rows[m / sz] (m % sz) (rows[m / sz][m % sz]'(by omega)) (by simp) (by simp)
  rw [show m / sz * sz + m % sz = m from by rw [Nat.mul_comm]; exact Nat.div_add_mod m sz] at hv'
  rw [Array.getElem?_toList, hv'] at hm
  cases hm; exact r.one
theorem slice_cells {sz : Nat} {rows : List (List C)} {u : Value} (h : SliceIs w A sz rows u) : ∃ vs : Array Value, vs.size = rows.length * sz ∧ (∀ w1 : World, w1.heap = w.heap → (Builtin.firstCells sz rows.length u).run P w1 = .ok vs w1) ∧ Flat w A sz rows vs := by
  obtain ⟨ad, k, e, hk, hsz, hc⟩ := h
  subst e
  have h0 : ∀ (w1 : World) (x : Addr), (loadCells x 0).run P w1 = .ok #[] w1 := fun w1 x => by simpa using run_loadCells_list (P := P) w1 x [] (by simp)
  by_cases hz : rows.length * sz = 0
  · refine ⟨#[], by simp [hz], fun w1 hw1 => ?_, hsz, fun i r j c hi hj => ?_⟩
    · cases ad with
      | none => rfl
      | some x => simp only [Builtin.firstCells, hz]; exact h0 w1 x
    · exfalso
      have hl := hsz r (List.mem_of_getElem? hi)
      have h1 : j < r.length := by rcases Nat.lt_or_ge j r.length with h | h; exact h; simp [List.getElem?_eq_none h] at hj
      have h2 : i < rows.length := by rcases Nat.lt_or_ge i rows.length with h | h; exact h; simp [List.getElem?_eq_none h] at hi
      have : 0 < rows.length * sz := Nat.mul_pos (by omega) (by omega)
      omega
  · have hp : 0 < rows.length * sz := by omega
    have hl0 : 0 < rows.length := Nat.pos_of_mul_pos_right hp
    have hs0 : 0 < sz := Nat.pos_of_mul_pos_left hp
    have hr0 := hsz rows[0] (List.getElem_mem hl0)
    obtain ⟨b, o, v0, e, _⟩ := hc 0 rows[0] 0 (rows[0][0]'(by omega)) (by simp) (by simp)
    subst e
    let f : Nat → Value := fun m => (w.cell? ⟨b, o + m, none⟩).getD undef
    have hcell : ∀ i r j c, rows[i]? = some r → r[j]? = some c → w.cell? ⟨b, o + (i * sz + j), none⟩ = some (f (i * sz + j)) ∧ RC w A c (f (i * sz + j)) := by
      intro i r j c hi hj
      obtain ⟨b', o', v, e1, e2, e3⟩ := hc i r j c hi hj
      cases e1
      have e2' : w.cell? ⟨b, o + (i * sz + j), none⟩ = some v := by rw [← Nat.add_assoc]; exact e2
      have : f (i * sz + j) = v := by simp only [f, e2', Option.getD_some]
      rw [this]; exact ⟨e2', e3⟩
    refine ⟨(Array.range (rows.length * sz)).map f, by simp, fun w1 hw1 => ?_, hsz, fun i r j c hi hj => ?_⟩
    · simp only [Builtin.firstCells]
      rw [run_loadCells (P := P) w1 ⟨b, o, none⟩ (rows.length * sz) f]
      · congr 1
        apply Array.ext
        · simp
        · intro i h1 h2; simp
      · intro m hm
        have hi : m / sz < rows.length := Nat.div_lt_of_lt_mul (by rw [Nat.mul_comm]; exact hm)
        have hj : m % sz < sz := Nat.mod_lt _ hs0
        have hl := hsz rows[m / sz] (List.getElem_mem hi)
        have := (hcell (m / sz) rows[m / sz] (m % sz) (rows[m / sz][m % sz]'(by omega)) (by simp) (by simp)).1
        rw [show m / sz * sz + m % sz = m from by rw [Nat.mul_comm]; exact Nat.div_add_mod m sz] at this
        rw [addr_add, World.cell?_of_block (w := w) (w' := w1) (by rw [hw1])]; exact this
    · have hl := hsz r (List.mem_of_getElem? hi)
      have h1 : j < r.length := by rcases Nat.lt_or_ge j r.length with h | h; exact h; simp [List.getElem?_eq_none h] at hj
      have h2 : i < rows.length := by rcases Nat.lt_or_ge i rows.length with h | h; exact h; simp [List.getElem?_eq_none h] at hi
      have h3 : (i + 1) * sz ≤ rows.length * sz := Nat.mul_le_mul_right _ h2
      rw [Nat.add_mul] at h3
      refine ⟨f (i * sz + j), ?_, (hcell i r j c hi hj).2⟩
      rw [Array.getElem?_map, Array.getElem?_range, if_pos (by omega)]; rfl

theorem RS.kill (R : RS B K σ A S a w) (n : Nat) : RS B K σ A { S with heap := put S.heap n .dead } a w := by
  have hg : ∀ m, rget (put S.heap n .dead) m = rget S.heap m ∨ rget (put S.heap n .dead) m = .dead := fun m => by
    rw [rget_put]; split
    · exact .inr rfl
    · exact .inl rfl
  have hst : ∀ m, Stays w w σ σ S.heap (put S.heap n .dead) m := fun m => ⟨rfl, by rcases hg m with e | e <;> rw [e]; exact Compat.refl _; trivial, fun b o _ _ => Wide.refl _ _⟩
  have hown : ∀ m, (rget (put S.heap n .dead) m).own = true → (rget S.heap m).own = true := fun m h => by
    rcases hg m with e | e <;> rw [e] at h
    · exact h
    · cases h
  refine ⟨⟨fun m => ?_, fun m q b o o' h1 h2 => R.heap.inj m q b o o' (hown m h1) (hown q h2), fun m b o h1 => R.heap.off m b o (hown m h1), R.heap.lt⟩,
    R.tmps.mono fun x u hx r => r.stays (fun b _ => rfl) (fun b h => h) fun m _ => hst m, R.known, fun m q hq => ?_, fun m hm => ?_, R.ext, R.ale, R.aup, fun m b o h1 => R.own m b o (hown m h1), R.sig0, R.defers, R.k0, fun m hm => (R.comp m hm).trans (hst m).compat⟩
  · rcases hg m with e | e <;> rw [e]
    · exact (R.heap.root m).stays (fun b _ => rfl) (fun b h => h) rfl (fun b o _ _ => rfl) fun q _ => hst q
    · trivial
  · rcases hg m with e | e <;> rw [e] at hq
    · exact R.knownH m q hq
    · cases hq
  · rcases hg m with e | e
    · rw [e]; exact R.dead m hm
    · exact e
theorem RS.adopt (R : RS B K σ A S a w) (hn0 : ∀ n, B.K0 n → K n) {start : Nat} (hs : ¬ K start) {r : Root} {x : Option (Nat × Nat)} {dst : Option Tmp} {v : V} {u : Value} {σ' : Sig} (hσ : σ' = fun n => if n = start then x else σ n)
    (hb : ∀ b o, x = some (b, o) → (∀ m o', (rget S.heap m).own = true → σ m = some (b, o') → False) ∧ ¬ A b ∧ (B.O0 b ∨ B.w0.heap.size ≤ b))
    (hr : RRoot w A σ' (put S.heap start r) start r) (hids : ∀ m ∈ r.ids, K m) (hv : RV w A σ' (put S.heap start r) v u) (hvids : ∀ n ∈ v.ids, n = start) :
    RS B (fun n => K n ∨ (start ≤ n ∧ n < start + 1)) σ' A { tmps := setTmp S.tmps dst v, heap := put S.heap start r } (a.put dst u) w := by
  have hne : ∀ n, K n → n ≠ start := fun n hn e => hs (e ▸ hn)
  have hsig : ∀ n, K n → σ' n = σ n := fun n hn => by rw [hσ]; simp [hne n hn]
  have hdead : rget S.heap start = .dead := R.dead start hs
  have hst : ∀ n, K n → Stays w w σ σ' S.heap (put S.heap start r) n := fun n hn => ⟨hsig n hn, by rw [rget_put_ne _ _ (hne n hn)]; exact Compat.refl _, fun b o _ _ => Wide.refl _ _⟩
  have hownK : ∀ m, (rget S.heap m).own = true → K m := fun m hm => Classical.byContradiction fun hk => by rw [R.dead m hk] at hm; cases hm
  have hσs : σ' start = x := by rw [hσ]; simp
  refine ⟨⟨fun n => ?_, fun n m b o o' h1 h2 h3 h4 => ?_, fun n b o h1 h2 => ?_, R.heap.lt⟩, ?_, ?_, ?_, ?_, R.ext, R.ale, R.aup, fun n b o h1 h2 => ?_, fun n hn => (hsig n (hn0 n hn)).trans (R.sig0 n hn), by rw [put_defers]; exact R.defers, fun n hn => .inl (R.k0 n hn), fun n hn => by rw [rget_put_ne _ _ (hne n (R.k0 n hn))]; exact R.comp n hn⟩
  · by_cases e : n = start
    · subst e; rw [rget_put_self]; exact hr
    · rw [rget_put_ne _ _ e]
      by_cases hk : K n
      · exact (R.heap.root n).stays (fun b _ => rfl) (fun b h => h) (hsig n hk) (fun b o _ _ => rfl) fun m hm => hst m (R.knownH n m hm)
      · rw [R.dead n hk]; trivial
  · by_cases e : n = start <;> by_cases e' : m = start
    · omega
    · exfalso; subst e
      rw [rget_put_ne _ _ e'] at h2
      rw [hσs] at h3; rw [hsig m (hownK m h2)] at h4
      exact (hb b o h3).1 m o' h2 h4
    · exfalso; subst e'
      rw [rget_put_ne _ _ e] at h1
      rw [hσs] at h4; rw [hsig n (hownK n h1)] at h3
      exact (hb b o' h4).1 n o h1 h3
    · rw [rget_put_ne _ _ e] at h1; rw [rget_put_ne _ _ e'] at h2
      rw [hsig n (hownK n h1)] at h3; rw [hsig m (hownK m h2)] at h4
      exact R.heap.inj n m b o o' h1 h2 h3 h4
  · by_cases e : n = start
    · subst e; rw [hσs] at h2; exact (hb b o h2).2.1
    · rw [rget_put_ne _ _ e] at h1; rw [hsig n (hownK n h1)] at h2; exact R.heap.off n b o h1 h2
  · exact All2.setTmp (R.tmps.mono fun y u hy r => r.stays (fun b _ => rfl) (fun b h => h) fun n hn => hst n (R.known y hy n hn)) dst hv
  · intro y hy n hn
    rcases mem_setTmp hy with rfl | hy
    · exact .inr (by have := hvids n hn; omega)
    · exact .inl (R.known y hy n hn)
  · intro n m hm
    by_cases e : n = start
    · subst e; rw [rget_put_self] at hm; exact .inl (hids m hm)
    · rw [rget_put_ne _ _ e] at hm; exact .inl (R.knownH n m hm)
  · intro n hn
    have e : n ≠ start := fun e => hn (.inr (by omega))
    rw [rget_put_ne _ _ e]; exact R.dead n fun hk => hn (.inl hk)
  · by_cases e : n = start
    · subst e; rw [hσs] at h2; exact (hb b o h2).2.2
    · rw [rget_put_ne _ _ e] at h1; rw [hsig n (hownK n h1)] at h2; exact R.own n b o h1 h2

theorem growBy_le (newLen : Nat) : ∀ (r c : Nat), c ≤ 2 * newLen + 192 → Builtin.growBy newLen r c ≤ 2 * newLen + 192
  | 0, c, h => h
  | r + 1, c, h => by
    unfold Builtin.growBy
    split
    · exact h
    · exact growBy_le newLen r _ (by omega)
theorem nextcap_le {need cap : Nat} (h : cap < need) : Builtin.nextslicecap need cap ≤ 2 * need + 192 := by
  unfold Builtin.nextslicecap
  split
  · omega
  · split
    · omega
    · exact growBy_le need 4 cap (by omega)
theorem flat_append {sz : Nat} {xs ys : List (List C)} {us vs : Array Value} (hx : Flat w A sz xs us) (hy : Flat w A sz ys vs) (hu : us.size = xs.length * sz) (rest : Array Value) : Flat w A sz (xs ++ ys) (us ++ vs ++ rest) := by
  refine ⟨fun r hr => by rcases List.mem_append.1 hr with hr | hr; exact hx.1 r hr; exact hy.1 r hr, fun i r j c hi hj => ?_⟩
  rw [List.getElem?_append] at hi
  split at hi
  · rename_i hlt
    obtain ⟨v, hv, rc⟩ := hx.2 i r j c hi hj
    have : i * sz + j < us.size := by rcases Nat.lt_or_ge (i * sz + j) us.size with h | h; exact h; simp [Array.getElem?_eq_none h] at hv
    exact ⟨v, by rw [Array.append_assoc, Array.getElem?_append_left this]; exact hv, rc⟩
  · rename_i hge
    obtain ⟨v, hv, rc⟩ := hy.2 (i - xs.length) r j c hi hj
    have e : i * sz + j = us.size + ((i - xs.length) * sz + j) := by
      rw [hu, Nat.sub_mul]
      have : xs.length * sz ≤ i * sz := Nat.mul_le_mul_right _ (by omega)
      omega
    have hlt : (i - xs.length) * sz + j < vs.size := by rcases Nat.lt_or_ge ((i - xs.length) * sz + j) vs.size with h | h; exact h; simp [Array.getElem?_eq_none h] at hv
    refine ⟨v, ?_, rc⟩
    rw [e, Array.append_assoc, Array.getElem?_append_right (by omega), show us.size + ((i - xs.length) * sz + j) - us.size = (i - xs.length) * sz + j from by omega, Array.getElem?_append_left hlt]
    exact hv
theorem appendRows_ok (R : RS B K σ A S a w) (hn0 : ∀ n, B.K0 n → K n) {i : TI} {y : V1} {new : List (List C)} {start : Nat} {v : V} {h' : List Root} (hs : ¬ K start) (h : appendRows S.heap start i y new = some (v, h')) {su : Value} (hy : RV1 w A σ S.heap y su) (hKy : ∀ n ∈ y.ids, K n)
    {vs : Array Value} (hflat : Flat w A i.size new vs) (hvs : vs.size = new.length * i.size) (hone : ∀ v ∈ vs.toList, v.oneCell' = true) {dst : Option Tmp} {e : TypeId} :
    ∃ (base : Option Addr) (sLen sCap : Nat) (old : Array Value), su = .slice base sLen sCap ∧ sLen + new.length ≤ mostRows ∧ i.bytes ≤ 1024 ∧ old.size = sLen * i.size ∧
      (∀ w1 : World, w1.heap = w.heap → (Builtin.firstCells i.size sLen su).run P w1 = .ok old w1) ∧
      (sLen + new.length ≤ sCap → ∃ w', ((match base with | some ad => storeCells (ad.add (sLen * i.size)) vs.toList | none => pure ()) : Sem Unit).run P w = .ok () w' ∧
        ∃ σ', RS B (fun n => K n ∨ (start ≤ n ∧ n < start + 1)) σ' A { tmps := setTmp S.tmps dst v, heap := h' } (a.put dst (.slice base (sLen + new.length) sCap)) w') ∧
      (sCap < sLen + new.length → ∀ (w1 : World) (newCap : Nat) (rest : Array Value), w1.heap = w.heap → w1.os = w.os → w1.tape = w.tape → w1.output = w.output → sLen + new.length ≤ newCap → rest.size = (newCap - (sLen + new.length)) * i.size →
        ∃ σ', RS B (fun n => K n ∨ (start ≤ n ∧ n < start + 1)) σ' A { tmps := setTmp S.tmps dst v, heap := h' } (a.put dst (.slice (some ⟨w1.heap.size, 0, none⟩) (sLen + new.length) newCap)) (w1.alloc (.cells (old ++ vs ++ rest) e))) := by
  unfold appendRows at h
  split at h
  · rename_i hbytes
    split at h
    · rename_i sz0
      split at h
      · rename_i hmost
        simp at h; obtain ⟨rfl, rfl⟩ := h
        have e0 : su = .slice none 0 0 := hy
        refine ⟨none, 0, 0, #[], e0, by simpa using hmost, hbytes, by simp, fun w1 hw1 => by rw [e0]; rfl, fun hle => ?_, fun hlt w1 newCap rest hw1 ho1 ht1 hp1 hle hrest => ?_⟩
        · have hnew : new = [] := by cases new with | nil => rfl | cons x l => simp at hle
          subst hnew
          refine ⟨w, rfl, _, R.adopt hn0 hs (x := none) rfl (by simp) ⟨by simp, .inl ⟨by simp, rfl⟩⟩ (by simp [Root.ids]) ⟨rfl, fun sz rs hq => ?_⟩ (fun n hn => by simpa [vone, V.ids, W.ids, V1.ids] using hn)⟩
          rw [rget_put_self] at hq
          rcases hq with hq | hq
          · cases hq; exact ⟨by simp, none, 0, by simp, by simp, by simp, .inl rfl⟩
          · cases hq
        · have R1 : RS B K σ A S a w1 := R.drew hw1 ho1 ht1 hp1
          have hasz : (#[] ++ vs ++ rest).size = newCap * i.size := by
            have : newCap = new.length + (newCap - (0 + new.length)) := by omega
            rw [this, Nat.add_mul]
            simp only [Array.size_append, hvs, hrest, Array.size_empty]
            congr 1; omega
          refine ⟨_, R1.grow1 (T := e) (arr := #[] ++ vs ++ rest) (r := .rows i.size new) hn0 hs rfl ?_ (by simp [Root.ids]) ⟨rfl, fun sz rs hq => ?_⟩ (fun n hn => by simpa [vone, V.ids, W.ids, V1.ids] using hn)⟩
          · have hf : Flat w1 A i.size ([] ++ new) (#[] ++ vs ++ rest) := flat_append (xs := []) ⟨by simp, fun i r j c hi => by simp at hi⟩ ⟨hflat.1, fun i r j c hi hj => by obtain ⟨q, h1, h2⟩ := hflat.2 i r j c hi hj; exact ⟨q, h1, h2.mono (fun b _ => by rw [hw1]) fun _ h => h⟩⟩ (by simp) rest
            refine rows_root (by simp) ?_ (by simpa using hf.alloc R1.heap.lt)
            rw [hasz]; exact Nat.mul_le_mul_right _ (by omega)
          · rw [rget_put_self] at hq
            rcases hq with hq | hq
            · cases hq
              refine ⟨by simp, some ⟨w1.heap.size, 0, none⟩, newCap, by simp, by simpa using hle, by simp, .inr ⟨w1.heap.size, 0, by simp, by simp, fun _ => ⟨_, e, (0, 0), heap_alloc_at w1 _, ?_⟩⟩⟩
              rw [hasz]; simp
            · cases hq
      · cases h
    · rename_i n off len cap
      split at h
      · rename_i sz rs hq
        split at h
        · rename_i hc
          obtain ⟨hsz, hmost⟩ := hc
          simp at h; obtain ⟨rfl, rfl⟩ := h
          have hKn : K n := hKy n (by simp [V1.ids])
          have hne : n ≠ start := fun e => hs (e ▸ hKn)
          obtain ⟨hone1, hrr⟩ := (show RRef w σ S.heap n off len cap su from hy)
          obtain ⟨f0, ad, k, e1, e2, e3, e4⟩ := hrr sz rs (.inl hq)
          have hown : (rget S.heap n).own = true := by rw [hq]; rfl
          have hroot := R.heap.root n
          rw [hq] at hroot
          have hvl : ((rs.drop off).take len).length = len := by simp; omega
          have hsl : SliceIs w A sz ((rs.drop off).take len) su := rowsOf_ok R (y := .ref n off len cap) (by simp [rowsOf, hq, Root.ro?]) hy
          obtain ⟨old, ho1, ho2, ho3⟩ := slice_cells (P := P) hsl
          rw [hvl] at ho1 ho2
          rw [← hsz] at hflat hvs ⊢
          have hget : ∀ (i' : Nat) (r : List C), ((rs.drop off).take len)[i']? = some r → i' < len ∧ rs[off + i']? = some r := fun i' r h => by
            rw [List.getElem?_take, List.getElem?_drop] at h
            split at h
            · exact ⟨by assumption, h⟩
            · cases h
          refine ⟨ad, len, k, old, e1, hmost, hbytes, ho1, ho2, fun hle => ?_, fun hlt w1 newCap rest hw1 hos1 ht1 hp1 hle hrest => ?_⟩
          · have hgf : grownFrom S.heap n cap (len + new.length) = put S.heap n .dead := by
              unfold grownFrom
              split
              · rw [if_neg (by have := e3 _ rfl; omega)]
              · rfl
            rw [hgf]
            have hdd : rget (put S.heap n .dead) n = .dead := rget_put_self _ _ _
            by_cases hk0 : k = 0
            · have hl0 : len = 0 := by omega
              have hnew : new = [] := by cases new with | nil => rfl | cons x l => simp at hle; omega
              subst hnew hl0 hk0
              have hv0 : vs.toList = [] := by have : vs.size = 0 := by simpa using hvs
                                              simpa using this
              refine ⟨w, ?_, _, (R.kill n).adopt hn0 hs (x := none) rfl (by simp) ⟨by simp, .inl ⟨by simp, by simp⟩⟩ (by simp [Root.ids]) ⟨rfl, fun sz' rs' hq' => ?_⟩ (fun n hn => by simpa [vone, V.ids, W.ids, V1.ids] using hn)⟩
              · rw [hv0]; cases ad <;> rfl
              · rw [rget_put_self] at hq'
                rcases hq' with hq' | hq'
                · cases hq'; exact ⟨by simp, ad, 0, by simp, by simp, by simp, .inl rfl⟩
                · cases hq'
            · rcases e4 with e4 | ⟨b, o, g1, g2, g3⟩
              · exact absurd e4 hk0
              · obtain ⟨arr0, T0, fz0, g4, g5⟩ := g3 hq
                rcases hroot.2 with ⟨q1, _⟩ | ⟨b', o', arr, T, q1, q2, q3, q4⟩
                · rw [g1] at q1; cases q1
                · rw [g1] at q1; cases q1
                  rw [q2] at g4; cases g4
                  have hmul : (len + new.length) * sz ≤ k * sz := Nat.mul_le_mul_right _ hle
                  rw [Nat.add_mul] at hmul
                  obtain ⟨w', s1, ⟨arr', s2, s3⟩, s4⟩ := storeCells_ok (P := P) T0 b vs.toList (o + off * sz + len * sz) 0 arr0 w q2 (by simp [hvs]; omega) hone
                  have hA : ∀ b', A b' → w'.heap[b']? = w.heap[b']? := fun b' hb' => s4.block b' (R.heap.lt b' hb') fun e => R.heap.off n b o hown g1 (e ▸ hb')
                  have Rw : RS B K σ A { S with heap := put S.heap n .dead } a w' := R.write (b := b) (n := n) (o := o) (dst := none) (v := .tup []) (u := undef) (h' := put S.heap n .dead) hown g1 s4 (fun _ h => h) (fun _ h => .inl h) (fun m hm => .inl (rget_put_ne _ _ hm)) (by rw [hdd]; trivial) (fun h => by rw [hdd] at h; cases h) (by rw [hdd]; trivial) (by rw [hdd]; simp [Root.ids]) ⟨#[], rfl, .nil⟩ (by simp [V.ids])
                  refine ⟨w', ?_, _, Rw.adopt hn0 hs (x := some (b, o + off * sz)) rfl (fun b2 o2 hx => ?_) ⟨fun r hr => ?_, .inr ⟨b, o + off * sz, arr', T0, by simp, s2, ?_, fun i' r j c hi hj => ?_⟩⟩ (by simp [Root.ids]) ⟨rfl, fun sz' rs' hq' => ?_⟩ (fun n hn => by simpa [vone, V.ids, W.ids, V1.ids] using hn)⟩
                  · rw [g2]; simp only [addr_add]; exact s1
                  · cases hx
                    refine ⟨fun m o' h1 h2 => ?_, R.heap.off n b o hown g1, R.own n b o hown g1⟩
                    by_cases hm : m = n
                    · subst hm; change (rget (put S.heap m .dead) m).own = true at h1; rw [hdd] at h1; cases h1
                    · change (rget (put S.heap n .dead) m).own = true at h1
                      rw [rget_put_ne _ _ hm] at h1
                      exact hm (R.heap.inj m n b o' o h1 hown h2 g1)
                  · rcases List.mem_append.1 hr with hr | hr
                    · exact hroot.1 r (List.mem_of_mem_drop (List.mem_of_mem_take hr))
                    · exact hflat.1 r hr
                  · have h9 := congrArg List.length s3
                    simp only [List.length_append, List.length_take, List.length_drop, Array.length_toList, hvs] at h9
                    rw [List.length_append, hvl, Nat.add_mul]
                    omega
                  · rw [← Array.getElem?_toList, s3, Nat.add_zero, over_get _ _ _ _ (by simp [hvs]; omega)]
                    have hrl : r.length = sz := by
                      have := List.mem_of_getElem? hi
                      rcases List.mem_append.1 this with hr | hr
                      · exact hroot.1 r (List.mem_of_mem_drop (List.mem_of_mem_take hr))
                      · exact hflat.1 r hr
                    have hjl : j < sz := by rw [← hrl]; rcases Nat.lt_or_ge j r.length with h | h; exact h; simp [List.getElem?_eq_none h] at hj
                    rw [List.getElem?_append] at hi
                    split at hi
                    · obtain ⟨p1, p2⟩ := hget i' r hi
                      have p3 : (i' + 1) * sz ≤ len * sz := Nat.mul_le_mul_right _ p1
                      rw [Nat.add_mul] at p3
                      rw [if_pos (by omega)]
                      obtain ⟨v, hv, rc⟩ := q4 (off + i') r j c p2 hj
                      refine ⟨v, ?_, rc.mono hA fun _ h => h⟩
                      rw [Nat.add_mul] at hv
                      rw [Array.getElem?_toList, show o + off * sz + i' * sz + j = o + (off * sz + i' * sz) + j from by omega]; exact hv
                    · rename_i hge
                      rw [hvl] at hi hge
                      obtain ⟨v, hv, rc⟩ := hflat.2 (i' - len) r j c hi hj
                      have p3 : len * sz ≤ i' * sz := Nat.mul_le_mul_right _ (by omega)
                      have hlt : (i' - len) * sz + j < vs.size := by rcases Nat.lt_or_ge ((i' - len) * sz + j) vs.size with h | h; exact h; simp [Array.getElem?_eq_none h] at hv
                      have p4 : (i' - len) * sz = i' * sz - len * sz := Nat.sub_mul _ _ _
                      rw [if_neg (by omega), if_pos (by simp; omega)]
                      refine ⟨v, ?_, rc.mono hA fun _ h => h⟩
                      rw [Array.getElem?_toList, show o + off * sz + i' * sz + j - (o + off * sz + len * sz) = (i' - len) * sz + j from by omega]; exact hv
                  · rw [rget_put_self] at hq'
                    rcases hq' with hq' | hq'
                    · cases hq'
                      refine ⟨by simp; omega, ad, k, by simp, by omega, by simp, .inr ⟨b, o + off * sz, by simp, by simp [g2], fun _ => ⟨arr', T0, (0, 0), s2, ?_⟩⟩⟩
                      have h9 := congrArg List.length s3
                      simp only [List.length_append, List.length_take, List.length_drop, Array.length_toList, hvs] at h9
                      omega
                    · cases hq'
          · have R1 : RS B K σ A S a w1 := R.drew hw1 hos1 ht1 hp1
            have R2 : RS B K σ A { S with heap := grownFrom S.heap n cap (len + new.length) } a w1 := by
              unfold grownFrom
              split
              · split
                · exact R1
                · exact R1.kill n
              · exact R1.kill n
            have hasz : (old ++ vs ++ rest).size = newCap * sz := by
              have : newCap = len + new.length + (newCap - (len + new.length)) := by omega
              rw [this, Nat.add_mul, Nat.add_mul]
              simp only [Array.size_append, hvs, hrest, ho1]
              try rw [← this]
            have hfw : ∀ {rows arr}, Flat w A sz rows arr → Flat w1 A sz rows arr := fun hf => ⟨hf.1, fun i r j c hi hj => by obtain ⟨q, h1, h2⟩ := hf.2 i r j c hi hj; exact ⟨q, h1, h2.mono (fun b _ => by rw [hw1]) fun _ h => h⟩⟩
            refine ⟨_, R2.grow1 (T := e) (arr := old ++ vs ++ rest) (r := .rows sz ((rs.drop off).take len ++ new)) hn0 hs rfl ?_ (by simp [Root.ids]) ⟨rfl, fun sz' rs' hq' => ?_⟩ (fun n hn => by simpa [vone, V.ids, W.ids, V1.ids] using hn)⟩
            · have hf : Flat w1 A sz ((rs.drop off).take len ++ new) (old ++ vs ++ rest) := flat_append (hfw ho3) (hfw hflat) (by rw [hvl]; exact ho1) rest
              refine rows_root (by simp) ?_ (hf.alloc R1.heap.lt)
              rw [hasz, List.length_append, hvl]; exact Nat.mul_le_mul_right _ hle
            · rw [rget_put_self] at hq'
              rcases hq' with hq' | hq'
              · cases hq'
                refine ⟨by simp; omega, some ⟨w1.heap.size, 0, none⟩, newCap, by simp, by simpa using hle, by simp, .inr ⟨w1.heap.size, 0, by simp, by simp, fun _ => ⟨_, e, (0, 0), heap_alloc_at w1 _, ?_⟩⟩⟩
                rw [hasz]; simp
              · cases hq'
        · cases h
      · cases h
    · cases h
  · cases h
end
end Go.Proofs.YtfokmnafgabdiaaGreatDoor.Eng
