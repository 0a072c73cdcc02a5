/-
  The evaluator: operations, regions, code, functions, calls.
-/
import Derived.Test.YtjckpgcmfieaoaaGreatDoorMab
set_option linter.unusedVariables false
set_option linter.unusedSimpArgs false
namespace Go.Proofs.YtjckpgcmfieaoaaGreatDoor
noncomputable section
variable (P : Program)

def eEvC (o : Operand) : EEv := match o with
  | .tmp t => match Nat.blt t 256 with
    | true => ⟨fun tm => (eGetC (d16 (t % 16))).f ((eGetC (d16 (t / 16))).f tm)⟩
    | false => ⟨fun _ => .bot⟩
  | .const v => ⟨fun _ => eVal v⟩
  | .global g => match Nat.blt g 1024 with
    | true => ⟨fun _ => .ptr (some (g, 0))⟩
    | false => ⟨fun _ => .bot⟩
  | .func f => ⟨fun _ => .fn (.func f) [] []⟩
def eEvs (l : List Operand) : ERg → List EV :=
  List.rec (motive := fun _ => ERg → List EV) (fun _ => []) (fun o _ ih tm => (eEvC o).f tm :: ih tm) l
def eEvps (l : List (Nat × Operand)) : ERg → List (Nat × EV) :=
  List.rec (motive := fun _ => ERg → List (Nat × EV)) (fun _ => []) (fun o _ ih tm => (o.1, (eEvC o.2).f tm) :: ih tm) l
def eEvo (o : Option Operand) (tm : ERg) : Option EV := match o with | some x => some ((eEvC x).f tm) | none => none

def eOptV (x : Option EV) (s : ESt) : EO := match x with | some v => .v v s | none => .er
def eBin2 (op : BinOp) (k : IntKind) (a b : Int) : Option EV := match op with
  | .add => some (.int k (eWrap k (Int.add a b)))
  | .sub => some (.int k (eWrap k (Int.sub a b)))
  | .mul => some (.int k (eWrap k (Int.mul a b)))
  | .eql => some (.bool (eIntEq a b))
  | .neq => some (.bool (!(eIntEq a b)))
  | .lss => some (.bool (eIntLt a b))
  | .leq => some (.bool (eIntLe a b))
  | .gtr => some (.bool (eIntLt b a))
  | .geq => some (.bool (eIntLe b a))
  | .quo => match eIntEq b 0 with
    | true => none
    | false => some (.int k (eWrap k (Int.tdiv a b)))
  | .rem => match eIntEq b 0 with
    | true => none
    | false => some (.int k (Int.tmod a b))
  | .and => some (.int k (eWrapN k (Nat.land (eLow k a) (eLow k b))))
  | .or => some (.int k (eWrapN k (Nat.lor (eLow k a) (eLow k b))))
  | .xor => some (.int k (eWrapN k (Nat.xor (eLow k a) (eLow k b))))
  | _ => none
def eShift (op : BinOp) (k : IntKind) (a b : Int) : Option EV := match b with
  | .ofNat n => match op with
    | .shl => some (.int k (eWrap k (Int.mul a (Int.ofNat (Nat.pow 2 (Nat.min n k.bits))))))
    | .shr => some (.int k (Int.fdiv a (Int.ofNat (Nat.pow 2 (Nat.min n k.bits)))))
    | _ => none
  | .negSucc _ => none
/-! Numbers and texts that are not known. -/
def eMkX (k : IntKind) (e : SX) : EV := match e with | .cst c => .int k c | e => .sint k e
def eFitX (k : IntKind) (e : SX) : Bool := match sBnd e with
  | ⟨lo, hi⟩ => match sIntLe (match k.signed with | true => Int.neg (.ofNat (eHalf k)) | false => 0) lo with
    | true => sIntLe (Int.add hi 1) (.ofNat (eHalf k))
    | false => false
def eMkF (k : IntKind) (e : SX) : Option EV := match eFitX k e with | true => some (eMkX k e) | false => none
def eMkO (k : IntKind) (e : Option SX) : Option EV := match e with | some e => eMkF k e | none => none
def eLtX (a b : SX) : Option Bool := match sBnd (sSub b a) with
  | ⟨lo, hi⟩ => match sIntLe 1 lo with
    | true => some true
    | false => match sIntLe hi 0 with
      | true => some false
      | false => none
def eB1 (b : Option Bool) : Option EV := match b with | some b => some (.bool b) | none => none
def eB0 (b : Option Bool) : Option EV := match b with | some b => some (.bool (!b)) | none => none
/-- Is it a multiple of 256? -/
def eM256 (f : SX) : Bool :=
  SX.rec (motive := fun _ => Bool) (fun _ _ _ => false) (fun _ _ _ _ => false) (fun _ _ _ => false) (fun c => sIntEq (Int.emod c 256) 0)
    (fun c _ _ _ ih => match sIntEq (Int.emod c 256) 0 with | true => ih | false => false) false (fun _ _ _ _ => false) f
def eOrX (a b : SX) : Option SX := match eM256 a with
  | true => match sBnd a with
    | ⟨la, _⟩ => match sBnd b with
      | ⟨lb, hb⟩ => match sIntLe 0 la && sIntLe 0 lb && sIntLe hb 255 with
        | true => some (sAdd a b)
        | false => none
  | false => none
/-- Of a number its lowest bits. -/
def eAndX (k : IntKind) (a : SX) (m : Nat) : Option SX := match Nat.beq (Nat.pow 2 (Nat.log2 (Nat.succ m))) (Nat.succ m) && Nat.ble (Nat.log2 (Nat.succ m)) k.bits with
  | true => sDm 1 (Nat.succ m) a
  | false => none
def eBin2X (op : BinOp) (k : IntKind) (a b : SX) : Option EV := match op with
  | .add => eMkF k (sAdd a b)
  | .sub => eMkF k (sSub a b)
  | .mul => match b with
    | .cst c => eMkF k (sMul c a)
    | _ => match a with
      | .cst c => eMkF k (sMul c b)
      | _ => none
  | .quo => match b with
    | .cst (.ofNat m) => eMkO k (sDm m 0 a)
    | _ => none
  | .rem => match b with
    | .cst (.ofNat m) => match Nat.ble 1 m with
      | true => eMkO k (sDm 1 m a)
      | false => none
    | _ => none
  | .or => eMkO k (eOrX a b)
  | .and => match b with
    | .cst (.ofNat m) => match Nat.blt m (eMod k) with
      | true => eMkO k (eAndX k a m)
      | false => none
    | _ => none
  | .eql => eB1 (sSame a b)
  | .neq => eB0 (sSame a b)
  | .lss => eB1 (eLtX a b)
  | .gtr => eB1 (eLtX b a)
  | .leq => eB0 (eLtX b a)
  | .geq => eB0 (eLtX a b)
  | _ => none
def eBinX (op : BinOp) (k k' : IntKind) (a b : SX) : Option EV := match op with
  | .shl => match b with
    | .cst (.ofNat n) => eMkF k (sMul (.ofNat (Nat.pow 2 (Nat.min n k.bits))) a)
    | _ => none
  | .shr => match b with
    | .cst (.ofNat n) => eMkO k (sDm (Nat.pow 2 (Nat.min n k.bits)) 0 a)
    | _ => none
  | op => match k == k' with
    | true => eBin2X op k a b
    | false => none
def eMkS (l : SX) : EV := match sKnown l with | some r => .str r | none => .sstr l
def eBinL (op : BinOp) (a b : SX) : Option EV := match op with
  | .add => match Nat.ble (Nat.add (sLen a) (sLen b)) 1000000000 with
    | true => some (.sstr (sApp a b))
    | false => none
  | .eql => eB1 (sSameL a b)
  | .neq => eB0 (sSameL a b)
  | _ => none
/-- A row of bytes as cells. -/
def eCellsX (l : SX) : List EV :=
  SX.rec (motive := fun _ => List EV) (fun _ _ _ => []) (fun _ _ _ _ => []) (fun _ _ _ => []) (fun _ => []) (fun _ _ _ _ _ => []) [] (fun b _ _ ih => eMkX .u8 b :: ih) l
/-- Cells as a row of bytes. -/
def eBytesX (l : List EV) : Option SX :=
  List.rec (motive := fun _ => Option SX) (some .nil) (fun x _ ih => match x with
    | .int .u8 (.ofNat n) => match Nat.ble n 255 with
      | true => match ih with | some r => some (.cons (.cst (.ofNat n)) r) | none => none
      | false => none
    | .sint .u8 e => match ih with | some r => some (.cons e r) | none => none
    | _ => none) l
/-- A number to another kind. -/
def eToX (k : IntKind) (e : SX) : Option EV := match eFitX k e with
  | true => some (eMkX k e)
  | false => match k.signed with
    | true => none
    | false => eMkO k (sDm 1 (eMod k) e)
def eBin (op : BinOp) (d : Option TypeDesc) (fl : Option (List Leaf)) (x y : EV) : Option EV := match x with
  | .int k a => match y with
    | .int k' b => match op with
      | .shl => eShift .shl k a b
      | .shr => eShift .shr k a b
      | op => match k == k' with
        | true => eBin2 op k a b
        | false => none
    | .sint k' e => eBinX op k k' (.cst a) e
    | _ => none
  | .sint k e => match y with
    | .int k' b => eBinX op k k' e (.cst b)
    | .sint k' f => eBinX op k k' e f
    | _ => none
  | .sstr l => match y with
    | .str b => eBinL op l (sOf b)
    | .sstr r => eBinL op l r
    | _ => none
  | .str a => match y with
    | .str b => match op with
      | .add => match Nat.ble (a.length + b.length) 1000000000 with
        | true => some (.str (a ++ b))
        | false => none
      | .eql => some (.bool (eNatsEq a b))
      | .neq => some (.bool (!(eNatsEq a b)))
      | _ => none
    | .sstr r => eBinL op (sOf a) r
    | _ => none
  | x => match d with
    | some d => match op with
      | .eql => match eEq d fl x y with | some b => some (.bool b) | none => none
      | .neq => match eEq d fl x y with | some b => some (.bool (!b)) | none => none
      | _ => none
    | none => none
def eOnes (k : IntKind) : Int := if k.signed then -1 else k.max
def eUn (op : UnOp) (x : EV) : Option EV := match op with
  | .xor => match x with | .int k n => eBin2 .xor k (eOnes k) n | _ => none
  | .not => match x with | .bool b => some (.bool (!b)) | _ => none
  | .neg => match x with | .int k n => some (.int k (eWrap k (Int.sub 0 n))) | _ => none
  | _ => none

def eFill (place : Nat → Option (Nat × Nat)) (ps : List (Nat × EV)) : List EV → Option (List EV) :=
  List.rec (motive := fun _ => List EV → Option (List EV)) (fun cs => some cs)
    (fun p _ ih cs => match place p.1 with
      | some (off, sz) => match p.2 with
        | .bot => none
        | x => match Nat.beq x.cells.length sz with
          | true => match Nat.ble (off + sz) cs.length with
            | true => ih (eLay cs x.cells off)
            | false => none
          | false => none
      | none => none) ps
def eRepl (z : List EV) (n : Nat) : List EV :=
  Nat.rec (motive := fun _ => List EV) [] (fun _ ih => z ++ ih) n
def ePlace (fs : Array Field) (i : Nat) : Option (Nat × Nat) := match eNth fs.toList i with
  | some f => match eInfo P f.type with
    | some j => some (f.offset, j.size)
    | none => none
  | none => none
def eFsOk (fs : Array Field) : Bool := fs.toList.all fun f => (eInfo P f.type).isSome
def eBuild (t : TypeId) (ps : Array (Nat × Operand)) (tm : ERg) : Option EV := match eZero P t with
  | .agg z => match eDesc P t with
    | some (.struct fs) => match eFsOk P fs with
      | true => match eFill (ePlace P fs) (eEvps ps.toList tm) z with
        | some l => some (.agg l)
        | none => none
      | false => none
    | some (.array _ e) => match eInfo P e with
      | some i => match eFill (fun j => some (j * i.size, i.size)) (eEvps ps.toList tm) z with
        | some l => some (.agg l)
        | none => none
      | none => none
    | _ => none
  | _ => none

def eBound (v : Option EV) (d hi : Nat) : Option Nat := match v with
  | none => some d
  | some (.int _ (.ofNat n)) => match Nat.ble n hi with | true => some n | false => none
  | some _ => none
def eSlStr (l : List Nat) (lo hi : Option EV) : Option EV := match eBound hi l.length l.length with
  | some h => match eBound lo 0 h with
    | some b => some (.str (eDrop (eTk l h) b))
    | none => none
  | none => none
/-- Do letters rise by one, from c on? -/
def eProg (l : List Nat) : Nat → Bool := List.rec (motive := fun _ => Nat → Bool) (fun _ => true) (fun x _ ih c => match Nat.beq x c with | true => ih (Nat.succ c) | false => false) l
/-- One letter of a known text, whose number e is not known: from a to b the letters rise by one. -/
def eSlDig (l : List Nat) (lo hi : Option EV) : Option EV := match lo with
  | some (.sint _ e) => match hi with
    | some (.sint _ f) => match sSub f e with
      | .cst (.ofNat 1) => match sBnd e with
        | ⟨.ofNat a, .ofNat b⟩ => match eDrop l a with
          | [] => none
          | c :: r => match Nat.ble a b && Nat.blt b l.length && eProg (eTk (c :: r) (Nat.succ (Nat.sub b a))) c with
            | true => some (.sstr (.cons (sAdd e (.cst (Int.sub (.ofNat c) (.ofNat a)))) .nil))
            | false => none
        | _ => none
      | _ => none
    | _ => none
  | _ => none
def eSlX (l : SX) (lo hi : Option EV) : Option EV := match eBound hi (sLen l) (sLen l) with
  | some h => match eBound lo 0 h with
    | some b => some (eMkS (sDrop (sTake l h) b))
    | none => none
  | none => none
/-- What a slice comes to from l to h, where its capacity goes to m. -/
def eSlCut (sz : Nat) (a : Option (Nat × Nat)) (l h m z : Nat) : Option EV := match Nat.ble h m with
  | true => match Nat.beq l 0 with
    | true => some (.sl a h m z)
    | false => match a with
      | some (b, o) => match Nat.beq z 0 || Nat.beq z sz with
        | true => match Nat.ble (Nat.succ l) m with
          | true => some (.sl (some (b, o + l * sz)) (h - l) (m - l) z)
          | false => match Nat.beq z 0 with
            | true => some (.sl (some (b, o)) 0 0 0)
            | false => some (.sl (some (b, o + l * sz)) 0 0 z)
        | false => none
      | none => none
  | false => none
/-- A slice of a slice: sz cells an element. -/
def eSlRow (sz : Nat) (a : Option (Nat × Nat)) (len cap z : Nat) (lo hi mx : Option EV) : Option EV := match mx with
  | some _ => match hi with
    | none => none
    | some _ => match eBound mx cap cap with
      | some m => match eBound hi len m with
        | some h => match eBound lo 0 h with
          | some l => eSlCut sz a l h m 0
          | none => none
        | none => none
      | none => none
  | none => match eBound hi len cap with
    | some h => match eBound lo 0 h with
      | some l => eSlCut sz a l h cap z
      | none => none
    | none => none
def eSlOf (e : TypeId) (a : Option (Nat × Nat)) (len cap z : Nat) (lo hi mx : Option EV) : Option EV := match eInfo P e with
  | some i => eSlRow i.size a len cap z lo hi mx
  | none => none
def eSlice (d : Option TypeDesc) (x : EV) (lo hi mx : Option EV) : Option EV := match d with
  | some .string => match x with
    | .str l => match mx with
      | none => match eSlStr l lo hi with
        | some r => some r
        | none => eSlDig l lo hi
      | some _ => none
    | .sstr l => match mx with
      | none => eSlX l lo hi
      | some _ => none
    | _ => none
  | some (.slice e) => match x with
    | .sl a len cap z => eSlOf P e a len cap z lo hi mx
    | _ => none
  | some (.pointer t) => match x with
    | .ptr (some a) => match eDesc P t with
      | some (.array n e) => eSlOf P e (some a) n n 0 lo hi mx
      | _ => none
    | _ => none
  | some (.array n e) => match x with
    | .ptr (some a) => eSlOf P e (some a) n n 0 lo hi mx
    | _ => none
  | _ => none

def eBytesV (l : List Nat) : List EV := List.rec (motive := fun _ => List EV) [] (fun n _ ih => .int .u8 (Int.ofNat n) :: ih) l
def eNatsV (l : List EV) : Option (List Nat) :=
  List.rec (motive := fun _ => Option (List Nat)) (some []) (fun x _ ih => match x with
    | .int .u8 (.ofNat n) => match Nat.ble n 255 with
      | true => match ih with | some r => some (n :: r) | none => none
      | false => none
    | _ => none) l
/-- The elements of a slice, or a string's bytes: how many, and their cells. -/
def eElems (sz : Nat) (x : EV) (s : ESt) : Option (Nat × List EV) := match x with
  | .sl (some (b, o)) l _ _ => match s.loadN b o (l * sz) with
    | some cs => some (l, cs)
    | none => none
  | .sl none l _ _ => match l with
    | 0 => some (0, [])
    | _ => none
  | .str l => match Nat.beq sz 1 with
    | true => some (l.length, eBytesV l)
    | false => none
  | .sstr l => match Nat.beq sz 1 with
    | true => some (sLen l, eCellsX l)
    | false => none
  | _ => none
/-- Nobody looks at a row any more. -/
def ESt.kill (s : ESt) (a : Option (Nat × Nat)) : Option ESt := match a with
  | some (b, _) => match s with
    | .mk h n => match h.get b with
      | some (.row _ _) => some (.mk (h.set b .dead) n)
      | _ => none
  | none => none
def eAppend (sz : Nat) (x y : EV) (s : ESt) : EO := match x with
  | .sl a len cap z => match eElems sz y s with
    | some (n, new) => match Nat.ble (len + n) cap with
      | true => match a with
        | some (b, o) => match s.storeN b (o + len * sz) new with
          | some s' => .v (.sl a (len + n) cap z) s'
          | none => .er
        | none => match n with
          | 0 => .v (.sl none len cap z) s
          | _ => .er
      | false => match Nat.ble (len + n) 1000000 && eAll new && Nat.ble 1 sz with
        | true => match eElems sz x s with
          | some (_, old) => match z with
            | 0 => s.row (old ++ new) fun b => .sl (some (b, 0)) (len + n) (len + n) sz
            | z => match Nat.beq z sz with
              | true => match s.kill a with
                | some s => s.row (old ++ new) fun b => .sl (some (b, 0)) (len + n) (len + n) sz
                | none => .er
              | false => .er
          | none => .er
        | false => .er
    | none => .er
  | _ => .er
def eCopy (sz : Nat) (x y : EV) (s : ESt) : EO := match x with
  | .sl (some (b, o)) len _ _ => match eElems sz y s with
    | some (n, new) => match s.storeN b o (eTk new (Nat.min n len * sz)) with
      | some s' => .v (.int .i64 (Int.ofNat (Nat.min n len))) s'
      | none => .er
    | none => .er
  | _ => .er

/-- Where a key stands in a map: its entry. -/
def eFind (d : TypeDesc) (fl : Option (List Leaf)) (k : EV) (es : List (EV × EV × Nat)) : Option (Option (EV × Nat)) :=
  List.rec (motive := fun _ => Option (Option (EV × Nat))) (some none) (fun e _ ih => match eEq d fl k e.1 with
    | some true => some (some e.2)
    | some false => ih
    | none => none) es
def eRepV (d : TypeDesc) (fl : Option (List Leaf)) (k v : EV) (es : List (EV × EV × Nat)) : List (EV × EV × Nat) :=
  List.rec (motive := fun _ => List (EV × EV × Nat)) [] (fun e r ih => match eEq d fl k e.1 with
    | some true => (k, v, e.2.2) :: r
    | _ => e :: ih) es
def eDelV (d : TypeDesc) (fl : Option (List Leaf)) (k : EV) (es : List (EV × EV × Nat)) : List (EV × EV × Nat) :=
  List.rec (motive := fun _ => List (EV × EV × Nat)) [] (fun e r ih => match eEq d fl k e.1 with
    | some true => r
    | _ => e :: ih) es
def ESt.mapAt (s : ESt) (x : EV) : Option (Nat × List (EV × EV × Nat) × Nat) := match x with
  | .map (some r) => match s with
    | .mk h _ => match h.get r with
      | some (.map es c) => some (r, es, c)
      | _ => none
  | _ => none
def ESt.setB (s : ESt) (r : Nat) (b : EBlk) : ESt := match s with | .mk h n => .mk (h.set r b) n
def eOkV (ok : Bool) (v : EV) (b : Bool) : EV := match ok with
  | true => .tup [v, .bool b]
  | false => v
/-- A key that may be looked for. -/
def eKeyS (d : TypeDesc) : Bool := match d with
  | .int _ => true
  | .string => true
  | _ => false
def eKeyOk (d : TypeDesc) (fl : Option (List Leaf)) (k : EV) : Bool := match eKeyS d with
  | true => true
  | false => match d with
    | .struct _ => match fl with
      | some fl => match k with | .agg xs => eFits fl xs | _ => false
      | none => false
    | .array _ _ => match fl with
      | some fl => match k with | .agg xs => eFits fl xs | _ => false
      | none => false
    | _ => false
def eLookup (d : TypeDesc) (fl : Option (List Leaf)) (z : EV) (ok : Bool) (x k : EV) (s : ESt) : Option EV := match x with
  | .map none => match eKeyOk d fl k with
    | true => some (eOkV ok z false)
    | false => none
  | x => match s.mapAt x with
    | some (_, es, _) => match eKeyOk d fl k with
      | true => match eFind d fl k es with
        | some (some e) => some (eOkV ok e.1 true)
        | some none => some (eOkV ok z false)
        | none => none
      | false => none
    | none => none
def eUpdate (d : TypeDesc) (fl : Option (List Leaf)) (x k v : EV) (s : ESt) : Option ESt := match s.mapAt x with
  | some (r, es, c) => match eKeyOk d fl k with
    | true => match eFind d fl k es with
      | some (some _) => some (s.setB r (.map (eRepV d fl k v es) c))
      | some none => some (s.setB r (.map (es ++ [(k, v, c)]) (Nat.succ c)))
      | none => none
    | false => none
  | none => none
def eDelete (d : TypeDesc) (fl : Option (List Leaf)) (x k : EV) (s : ESt) : EO := match s.mapAt x with
  | some (r, es, c) => match eKeyOk d fl k with
    | true => match eFind d fl k es with
      | some (some _) => .v (.tup []) (s.setB r (.map (eDelV d fl k es) c))
      | some none => .v (.tup []) (s.setB r (.map es c))
      | none => .er
    | false => .er
  | none => .er
def eLen (d : Option TypeDesc) (x : EV) (s : ESt) : Option EV := match d with
  | some .string => match x with | .str l => some (.int .i64 (Int.ofNat l.length)) | .sstr l => some (.int .i64 (Int.ofNat (sLen l))) | _ => none
  | some (.slice _) => match x with | .sl _ n _ _ => some (.int .i64 (Int.ofNat n)) | _ => none
  | some (.array n _) => some (.int .i64 (Int.ofNat n))
  | some (.map _ _) => match x with
    | .map none => some (.int .i64 0)
    | x => match s.mapAt x with
      | some (_, es, _) => some (.int .i64 (Int.ofNat es.length))
      | none => none
  | some (.pointer t) => match eDesc P t with
    | some (.array n _) => some (.int .i64 (Int.ofNat n))
    | _ => none
  | _ => none
def eHas (a : Nat) (l : List Nat) : Bool := List.rec (motive := fun _ => Bool) false (fun x _ ih => match Nat.beq x a with | true => true | false => ih) l
/-- The entries that a way through a map has not come to. -/
def eUnseen (seen : List Nat) (es : List (EV × EV × Nat)) : List (EV × EV × Nat) :=
  List.rec (motive := fun _ => List (EV × EV × Nat)) [] (fun e _ ih => match eHas e.2.2 seen with | true => ih | false => e :: ih) es
/-- Is some entry older? -/
def eOlder (c : Nat) (es : List (EV × EV × Nat)) : Bool :=
  List.rec (motive := fun _ => Bool) false (fun e _ ih => match Nat.blt e.2.2 c with | true => true | false => ih) es
def eFine (seen : List Nat) (last : Nat) (es : List (EV × EV × Nat)) : Bool := match seen with
  | [] => true
  | _ :: _ => match es with
    | [] => true
    | _ :: _ => eOlder last es
/-- A step of a way through a map, where at most one entry is left. -/
def eNextM (m since : Nat) (seen : List Nat) (last r : Nat) (h : ETr EBlk) (n : Nat) : EO := match h.get m with
  | some (.map es c) => match eFine seen last es with
    | true => match eUnseen seen es with
      | [] => .v (.tup [.bool false]) (.mk h n)
      | e :: rest => match rest with
        | [] => match Nat.blt e.2.2 since with
          | true => .v (.tup [.bool true, e.1, e.2.1]) (.mk (h.set r (.iter (some m) since (seen ++ [e.2.2]) c)) n)
          | false => .er
        | _ :: _ => .er
    | false => .er
  | _ => .er
def eLast (l : List Nat) : Option Nat := List.rec (motive := fun _ => Option Nat) none (fun x r ih => match r with | [] => some x | _ :: _ => ih) l
def eByB (b : Nat) (es : List (EV × EV × Nat)) : Option (EV × EV) := List.rec (motive := fun _ => Option (EV × EV)) none (fun e _ ih => match Nat.beq e.2.2 b with | true => some (e.1, e.2.1) | false => ih) es
/-- The entry that a way through a map has come to. -/
def eEntryH (r : Nat) (h : ETr EBlk) : Option (EV × EV) := match h.get r with
  | some (.iter (some m) _ seen last) => match eLast seen with
    | some b => match h.get m with
      | some (.map es c) => match Nat.beq c last with
        | true => eByB b es
        | false => none
      | _ => none
    | none => none
  | _ => none
def eEntry (x : EV) (s : ESt) : EO := match x with
  | .ptr (some (r, 0)) => match s with
    | .mk h n => match eEntryH r h with
      | some e => .v (.tup [e.1, e.2]) (.mk h n)
      | none => .er
  | _ => .er
def eNext (isStr : Bool) (x : EV) (s : ESt) : EO := match x with
  | .ptr (some (r, 0)) => match s with
    | .mk h n => match h.get r with
      | some (.siter l pos) => match isStr with
        | true => match sNth l pos with
          | some c => match sIntLe (sBnd c).hi 127 with
            | false => .er
            | true => .v (.tup [.bool true, .int .i64 (Int.ofNat pos), eMkX .i32 c]) (.mk (h.set r (.siter l (Nat.succ pos))) n)
          | none => .v (.tup [.bool false]) s
        | false => .er
      | some (.iter m since seen last) => match isStr with
        | true => .er
        | false => match m with
          | none => .v (.tup [.bool false]) (.mk h n)
          | some m => eNextM m since seen last r h n
      | _ => .er
  | _ => .er
def eRange (d : Option TypeDesc) (x : EV) (s : ESt) : EO := match d with
  | some .string => match x with
    | .str l => s.blk (.siter (sOf l) 0) fun b => .ptr (some (b, 0))
    | .sstr l => s.blk (.siter l 0) fun b => .ptr (some (b, 0))
    | _ => .er
  | some (.map _ _) => match x with
    | .map none => s.blk (.iter none 0 [] 0) fun b => .ptr (some (b, 0))
    | x => match s.mapAt x with
      | some (r, _, c) => s.blk (.iter (some r) c [] c) fun b => .ptr (some (b, 0))
      | none => .er
  | _ => .er
def eAssert (iface : Bool) (t : TypeId) (ok : Bool) (x : EV) : Option EV := match x with
  | .ifc u y => match iface with
    | true => none
    | false => match Nat.beq u t with
      | true => some (eOkV ok y true)
      | false => match ok with
        | true => some (.tup [eZero P t, .bool false])
        | false => none
  | .nilI => match ok with
    | true => some (.tup [eZero P t, .bool false])
    | false => none
  | _ => none
def eIdxA (sz : Nat) (lim : Option Nat) (i x : EV) : Option EV := match i with
  | .int _ (.ofNat i) => match x with
    | .ptr (some (b, o)) => match lim with
      | some n => match Nat.ble (Nat.succ i) n with
        | true => some (.ptr (some (b, o + i * sz)))
        | false => none
      | none => none
    | .sl (some (b, o)) n _ _ => match lim with
      | none => match Nat.ble (Nat.succ i) n with
        | true => some (.ptr (some (b, o + i * sz)))
        | false => none
      | some _ => none
    | _ => none
  | _ => none
def eIdx (a : EAg) (sz : Nat) (lim : Option Nat) (i x : EV) : Option EV := match i with
  | .int _ (.ofNat i) => match x with
    | .agg cs => match lim with
      | some n => match Nat.ble (Nat.succ i) n with
        | true => ePart a cs (i * sz)
        | false => none
      | none => none
    | .str l => match lim with
      | none => match eNth l i with
        | some b => some (.int .u8 (Int.ofNat b))
        | none => none
      | some _ => none
    | .sstr l => match lim with
      | none => match sNth l i with
        | some b => some (eMkX .u8 b)
        | none => none
      | some _ => none
    | _ => none
  | _ => none
def eConv (src dst : Option TypeDesc) (byteE : Bool) (x : EV) (s : ESt) : EO := match dst with
  | some (.int k) => match src with
    | some (.int _) => match x with
      | .int _ n => .v (.int k (eWrap k n)) s
      | .sint _ e => match eToX k e with
        | some y => .v y s
        | none => .er
      | _ => .er
    | _ => .er
  | some .string => match src with
    | some .string => match x with | .str l => .v (.str l) s | .sstr l => .v (.sstr l) s | _ => .er
    | some (.slice _) => match byteE with
      | true => match x with
        | .sl none _ _ _ => .v (.str []) s
        | .sl (some (b, o)) len _ _ => match s.loadN b o len with
          | some l => match eNatsV l with
            | some r => .v (.str r) s
            | none => match eBytesX l with
              | some r => .v (.sstr r) s
              | none => .er
          | none => .er
        | _ => .er
      | false => .er
    | _ => .er
  | some (.slice _) => match src with
    | some .string => match byteE with
      | true => match x with
        | .str l => match Nat.ble l.length 1000000000 with
          | true => s.row (eBytesV l) fun b => .sl (some (b, 0)) l.length l.length 1
          | false => .er
        | .sstr l => match Nat.ble (sLen l) 1000000000 with
          | true => s.row (eCellsX l) fun b => .sl (some (b, 0)) (sLen l) (sLen l) 1
          | false => .er
        | _ => .er
      | false => .er
    | _ => .er
  | _ => .er
/-- Is it a slice of bytes? -/
def eByteSl (d : Option TypeDesc) : Bool := match d with
  | some (.slice e) => match eDesc P e with
    | some (.int .u8) => true
    | _ => false
  | _ => false

def eBuiltin (b : Builtin) (args : List Operand) (types : List TypeId) : ECl1 := match b with
  | .append => match types with
    | [t, u] => match args with
      | [x, y] => match eDesc P t with
        | some (.slice e) => match eInfo P e with
          | some i => match eZero P e with
            | .bot => ⟨fun _ _ _ => .er⟩
            | z => match Nat.ble i.bytes 1000000 && Nat.beq z.cells.length i.size && (match eDesc P u with | some (.slice _) => true | some .string => true | _ => false) with
              | true => ⟨fun _ tm s => eAppend i.size ((eEvC x).f tm) ((eEvC y).f tm) s⟩
              | false => ⟨fun _ _ _ => .er⟩
          | none => ⟨fun _ _ _ => .er⟩
        | _ => ⟨fun _ _ _ => .er⟩
      | _ => ⟨fun _ _ _ => .er⟩
    | _ => ⟨fun _ _ _ => .er⟩
  | .copy => match types with
    | t :: _ => match args with
      | [x, y] => match eDesc P t with
        | some (.slice e) => match eInfo P e with
          | some i => ⟨fun _ tm s => eCopy i.size ((eEvC x).f tm) ((eEvC y).f tm) s⟩
          | none => ⟨fun _ _ _ => .er⟩
        | _ => ⟨fun _ _ _ => .er⟩
      | _ => ⟨fun _ _ _ => .er⟩
    | _ => ⟨fun _ _ _ => .er⟩
  | .len => match types with
    | t :: _ => match args with
      | x :: _ => ⟨fun _ tm s => eOptV (eLen P (eDesc P t) ((eEvC x).f tm) s) s⟩
      | _ => ⟨fun _ _ _ => .er⟩
    | _ => ⟨fun _ _ _ => .er⟩
  | .delete => match types with
    | t :: _ => match args with
      | [x, y] => match eDesc P t with
        | some (.map kt _) => match eDesc P kt with
          | some d => ⟨fun _ tm s => eDelete d (eLeaves P kt) ((eEvC x).f tm) ((eEvC y).f tm) s⟩
          | none => ⟨fun _ _ _ => .er⟩
        | _ => ⟨fun _ _ _ => .er⟩
      | _ => ⟨fun _ _ _ => .er⟩
    | _ => ⟨fun _ _ _ => .er⟩
  | .min => match args with
    | [x, y] => ⟨fun _ tm s => match (eEvC x).f tm with
      | .int k a => match (eEvC y).f tm with
        | .int _ b => .v (.int k (match eIntLt b a with | true => b | false => a)) s
        | _ => .er
      | _ => .er⟩
    | _ => ⟨fun _ _ _ => .er⟩
  | .max => match args with
    | [x, y] => ⟨fun _ tm s => match (eEvC x).f tm with
      | .int k a => match (eEvC y).f tm with
        | .int _ b => .v (.int k (match eIntLt a b with | true => b | false => a)) s
        | _ => .er
      | _ => .er⟩
    | _ => ⟨fun _ _ _ => .er⟩
  | _ => ⟨fun _ _ _ => .er⟩

/-- Only where the zero is known. -/
def eIfZ (z : EV) (c : ECl1) : ECl1 := match z with
  | .bot => ⟨fun _ _ _ => .er⟩
  | _ => c
/-- An operation, made ready. -/
def eOp (o : Oper) : ECl1 := match o.op with
  | .move x => ⟨fun _ tm s => .v ((eEvC x).f tm) s⟩
  | .assign x => ⟨fun _ tm s => .v ((eEvC x).f tm) s⟩
  | .pick c x y => ⟨fun _ tm s => match (eEvC c).f tm with
    | .bool true => .v ((eEvC x).f tm) s
    | .bool false => .v ((eEvC y).f tm) s
    | _ => .er⟩
  | .alloc t => match eZero P t with
    | .bot => ⟨fun _ _ _ => .er⟩
    | z => ⟨fun _ _ s => s.rowT t z.cells fun b => .ptr (some (b, 0))⟩
  | .box t x => ⟨fun _ tm s => match (eEvC x).f tm with
    | .bot => .er
    | z => s.rowT t z.cells fun b => .ptr (some (b, 0))⟩
  | .build t ps => ⟨fun _ tm s => eOptV (eBuild P t ps tm) s⟩
  | .buildSlice t len ps => match eDesc P t with
    | some (.slice e) => match eInfo P e with
      | some i => match eZero P e with
        | .bot => ⟨fun _ _ _ => .er⟩
        | z => match Nat.beq z.cells.length i.size && Nat.ble (len * i.size) 10000 with
          | true => ⟨fun _ tm s => match eFill (fun j => some (j * i.size, i.size)) (eEvps ps.toList tm) (eRepl z.cells len) with
            | some l => s.row l fun b => .sl (some (b, 0)) len len 0
            | none => .er⟩
          | false => ⟨fun _ _ _ => .er⟩
      | none => ⟨fun _ _ _ => .er⟩
    | _ => ⟨fun _ _ _ => .er⟩
  | .load t x => ⟨fun _ tm s => eLd (eAgg P t) s ((eEvC x).f tm)⟩
  | .store t x y => match eInfo P t with
    | some i => ⟨fun _ tm s => eSt i.size s ((eEvC x).f tm) ((eEvC y).f tm)⟩
    | none => ⟨fun _ _ _ => .er⟩
  | .nilCheck x => ⟨fun _ tm s => match (eEvC x).f tm with
    | .ptr (some a) => .v (.ptr (some a)) s
    | .fn (.func f) a b => .v (.fn (.func f) a b) s
    | .ifc t v => .v (.ifc t v) s
    | .map r => .v (.map r) s
    | .sl a l c z => .v (.sl a l c z) s
    | _ => .er⟩
  | .binOp op t x y _ => ⟨fun _ tm s => eOptV (eBin op (eDesc P t) (eLeaves P t) ((eEvC x).f tm) ((eEvC y).f tm)) s⟩
  | .unOp op _ x => ⟨fun _ tm s => eOptV (eUn op ((eEvC x).f tm)) s⟩
  | .convert src dst x => ⟨fun _ tm s => eConv (eDesc P src) (eDesc P dst) (eByteSl P (match eDesc P dst with | some .string => eDesc P src | d => d)) ((eEvC x).f tm) s⟩
  | .makeInterface t x => match eDesc P t with
    | some (.interface _) => ⟨fun _ _ _ => .er⟩
    | none => ⟨fun _ _ _ => .er⟩
    | some _ => ⟨fun _ tm s => .v (.ifc t ((eEvC x).f tm)) s⟩
  | .makeFunc f first caps => ⟨fun _ tm s => .v (.fn f (eEvs first.toList tm) (eEvs caps.toList tm)) s⟩
  | .makeMap t r => match r with
    | none => ⟨fun _ _ s => s.blk (.map [] 0) fun b => .map (some b)⟩
    | some (.const (.int _ _)) => match eDesc P t with
      | some (.map _ _) => ⟨fun _ _ s => s.blk (.map [] 0) fun b => .map (some b)⟩
      | _ => ⟨fun _ _ _ => .er⟩
    | _ => ⟨fun _ _ _ => .er⟩
  | .makeSlice t l c => match eDesc P t with
    | some (.slice e) => match eInfo P e with
      | some i => match eZero P e with
        | .bot => ⟨fun _ _ _ => .er⟩
        | z => match Nat.beq z.cells.length i.size with
          | true => ⟨fun _ tm s => match (eEvC l).f tm with
            | .int _ (.ofNat l) => match (eEvC c).f tm with
              | .int _ (.ofNat c) => match Nat.ble l c && Nat.ble c 1000000 && Nat.ble (i.bytes * c) 1000000000 with
                | true => s.row (eRepl z.cells c) fun b => .sl (some (b, 0)) l c 0
                | false => .er
              | _ => .er
            | _ => .er⟩
          | false => ⟨fun _ _ _ => .er⟩
      | none => ⟨fun _ _ _ => .er⟩
    | _ => ⟨fun _ _ _ => .er⟩
  | .slice t x lo hi mx => ⟨fun _ tm s => eOptV (eSlice P (eDesc P t) ((eEvC x).f tm) (eEvo lo tm) (eEvo hi tm) (eEvo mx tm)) s⟩
  | .fieldAddr t x f => match eDesc P t with
    | some (.struct fs) => match eNth fs.toList f with
      | some f => match eInfo P f.type with
        | some j => match Nat.ble 1 j.size with
          | true => ⟨fun _ tm s => match (eEvC x).f tm with
            | .ptr (some (b, o)) => .v (.ptr (some (b, o + f.offset))) s
            | _ => .er⟩
          | false => ⟨fun _ _ _ => .er⟩
        | none => ⟨fun _ _ _ => .er⟩
      | none => ⟨fun _ _ _ => .er⟩
    | _ => ⟨fun _ _ _ => .er⟩
  | .field t x f => match eDesc P t with
    | some (.struct fs) => match eNth fs.toList f with
      | some f => ⟨fun _ tm s => match (eEvC x).f tm with
        | .agg cs => eOptV (ePart (eAgg P f.type) cs f.offset) s
        | _ => .er⟩
      | none => ⟨fun _ _ _ => .er⟩
    | _ => ⟨fun _ _ _ => .er⟩
  | .indexAddr t x i => match eDesc P t with
    | some (.array n e) => match eInfo P e with
      | some j => ⟨fun _ tm s => eOptV (eIdxA j.size (some n) ((eEvC i).f tm) ((eEvC x).f tm)) s⟩
      | none => ⟨fun _ _ _ => .er⟩
    | some (.slice e) => match eInfo P e with
      | some j => ⟨fun _ tm s => eOptV (eIdxA j.size none ((eEvC i).f tm) ((eEvC x).f tm)) s⟩
      | none => ⟨fun _ _ _ => .er⟩
    | _ => ⟨fun _ _ _ => .er⟩
  | .index t x i => match eDesc P t with
    | some (.array n e) => match eInfo P e with
      | some j => ⟨fun _ tm s => eOptV (eIdx (eAgg P e) j.size (some n) ((eEvC i).f tm) ((eEvC x).f tm)) s⟩
      | none => ⟨fun _ _ _ => .er⟩
    | some .string => ⟨fun _ tm s => eOptV (eIdx .no 0 none ((eEvC i).f tm) ((eEvC x).f tm)) s⟩
    | _ => ⟨fun _ _ _ => .er⟩
  | .lookup t x k ok => match eDesc P t with
    | some (.map kt e) => match eDesc P kt with
      | some d => eIfZ (eZero P e) ⟨fun _ tm s => eOptV (eLookup d (eLeaves P kt) (eZero P e) ok ((eEvC x).f tm) ((eEvC k).f tm) s) s⟩
      | none => ⟨fun _ _ _ => .er⟩
    | _ => ⟨fun _ _ _ => .er⟩
  | .mapUpdate t m k x => match eDesc P t with
    | some (.map kt _) => match eDesc P kt with
      | some d => ⟨fun _ tm s => eSto (eUpdate d (eLeaves P kt) ((eEvC m).f tm) ((eEvC k).f tm) ((eEvC x).f tm) s)⟩
      | none => ⟨fun _ _ _ => .er⟩
    | _ => ⟨fun _ _ _ => .er⟩
  | .insert t m k x => match eDesc P t with
    | some (.map kt _) => match eDesc P kt with
      | some d => ⟨fun _ tm s => eSto (eUpdate d (eLeaves P kt) ((eEvC m).f tm) ((eEvC k).f tm) ((eEvC x).f tm) s)⟩
      | none => ⟨fun _ _ _ => .er⟩
    | _ => ⟨fun _ _ _ => .er⟩
  | .range t x => ⟨fun _ tm s => eRange (eDesc P t) ((eEvC x).f tm) s⟩
  | .next it b => ⟨fun _ tm s => eNext b ((eEvC it).f tm) s⟩
  | .entry it => ⟨fun _ tm s => eEntry ((eEvC it).f tm) s⟩
  | .typeAssert x _ t ok => match eDesc P t with
    | some (.interface _) => eIfZ (eZero P t) ⟨fun _ tm s => eOptV (eAssert P true t ok ((eEvC x).f tm)) s⟩
    | some _ => eIfZ (eZero P t) ⟨fun _ tm s => eOptV (eAssert P false t ok ((eEvC x).f tm)) s⟩
    | none => ⟨fun _ _ _ => .er⟩
  | .extract x i => ⟨fun _ tm s => match (eEvC x).f tm with
    | .tup l => eOptV (eNth l i) s
    | _ => .er⟩
  | .call c => match c.callee with
    | .value f => ⟨fun k tm s => match (eEvC f).f tm with
      | .fn (.func g) first caps => k g (first ++ eEvs c.args.toList tm ++ caps) s
      | _ => .er⟩
    | .invoke _ _ => ⟨fun _ _ _ => .er⟩
    | .builtin b => eBuiltin P b c.args.toList c.argTypes.toList
  | _ => ⟨fun _ _ _ => .er⟩

def eGuard (ops : List Oper) (g : Option (Nat × Bool)) : Option (Option Nat × Bool) := match g with
  | none => none
  | some (j, want) => match eNth ops j with
    | some o => match o.dst with
      | some t => some (some t, want)
      | none => some (none, want)
    | none => some (none, want)
def ePutD (d : Option Tmp) (tm : ERg) (v : EV) : ERg := match d with
  | some t => tm.set t v
  | none => tm
/-- An operation in its row: what stands behind it is ih; N: how many temporaries there are. -/
def eStep (N : Nat) (o : Oper) (ih : ECl) : ECl := match o.op with
  | .defer c => match c.callee with
    | .value f => match o.dst with
      | none => ⟨fun k tm df s => match (eEvC f).f tm with
        | .fn g a b => ih.f k tm ((.fn g a b, eEvs c.args.toList tm) :: df) s
        | _ => .er⟩
      | some _ => ⟨fun _ _ _ _ => .er⟩
    | _ => ⟨fun _ _ _ _ => .er⟩
  | _ => match o.dst with
    | some d => match Nat.blt d N with
      | true => ⟨fun k tm df s => EO.rec (motive := fun _ => EOut) .er (fun x s' => ih.f k ((ePutC (d16 (d / 16))).f tm ((ePutC (d16 (d % 16))).f ((eGetC (d16 (d / 16))).f tm) x)) df s') ((eOp P o).f k tm s)⟩
      | false => ⟨fun _ _ _ _ => .er⟩
    | none => ⟨fun k tm df s => EO.rec (motive := fun _ => EOut) .er (fun _ s' => ih.f k tm df s') ((eOp P o).f k tm s)⟩
/-- Its temporary is one of N. -/
def eDstOk (N : Nat) (o : Oper) : Bool := match o.dst with
  | some d => Nat.blt d N
  | none => true
def eGuarded (all : List Oper) (N : Nat) (o : Oper) (go ih : ECl) : ECl := match eGuard all o.guard with
  | none => go
  | some (some p, want) => match Nat.blt p 256 && eDstOk N o with
    | true => ⟨fun k tm df s => match ERg.get p tm with
      | .bool b => match (match b with | true => want | false => !want) with
        | true => go.f k tm df s
        | false => ih.f k (ePutD o.dst tm (.tup [])) df s
      | .tup [] => ih.f k (ePutD o.dst tm (.tup [])) df s
      | _ => .er⟩
    | false => ⟨fun _ _ _ _ => .er⟩
  | some (none, _) => ⟨fun _ _ _ _ => .er⟩
/-- Operations in their order. -/
def eOps (all : List Oper) (N : Nat) (l : List Oper) : ECl :=
  List.rec (motive := fun _ => ECl) ⟨fun _ tm df s => .n tm df s⟩
    (fun o _ ih => eGuarded all N o (eStep P N o ih) ih) l

/-! A region that draws its order. -/

/-- Are two values the same, to the letter? -/
def eSameO (a b : Option (Nat × Nat)) : Bool := match a with
  | none => match b with | none => true | some _ => false
  | some p => match b with | none => false | some q => Nat.beq p.1 q.1 && Nat.beq p.2 q.2
def eSameS (x y : EV) : Bool := match x with
  | .int k a => match y with | .int k' b => k == k' && eIntEq a b | _ => false
  | .bool a => match y with | .bool b => (match a with | true => b | false => !b) | _ => false
  | .str a => match y with | .str b => eNatsEq a b | _ => false
  | .sint k a => match y with | .sint k' b => k == k' && sEqX a b | _ => false
  | .sstr a => match y with | .sstr b => sEqX a b | _ => false
  | .ptr a => match y with | .ptr b => eSameO a b | _ => false
  | .sl a l c z => match y with | .sl b l' c' z' => eSameO a b && Nat.beq l l' && Nat.beq c c' && Nat.beq z z' | _ => false
  | .map none => match y with | .map none => true | _ => false
  | .map (some r) => match y with | .map (some q) => Nat.beq r q | _ => false
  | .nilF => match y with | .nilF => true | _ => false
  | .nilI => match y with | .nilI => true | _ => false
  | .fn (.func f) [] [] => match y with | .fn (.func g) [] [] => Nat.beq f g | _ => false
  | _ => false
def eSameL (a : List EV) : List EV → Bool :=
  List.rec (motive := fun _ => List EV → Bool) (fun b => match b with | [] => true | _ => false)
    (fun x _ ih b => match b with
      | [] => false
      | y :: r => match eSameS x y with | true => ih r | false => false) a
def eSame (x y : EV) : Bool := match x with
  | .agg a => match y with | .agg b => eSameL a b | _ => false
  | .tup a => match y with | .tup b => eSameL a b | _ => false
  | x => eSameS x y

/-- What an operation is: it computes alone; it looks at blocks; it makes a block; it has an effect. -/
inductive ECls where
  | pure
  | look
  | fresh
  | eff
def eCls (o : Oper) : ECls := match o.op with
  | .move _ => .pure
  | .assign _ => .pure
  | .pick _ _ _ => .pure
  | .extract _ _ => .pure
  | .fieldAddr _ _ _ => .pure
  | .field _ _ _ => .pure
  | .makeFunc _ _ _ => .pure
  | .nilCheck _ => .pure
  | .binOp _ _ _ _ _ => .pure
  | .unOp _ _ _ => .pure
  | .indexAddr _ _ _ => .pure
  | .index _ _ _ => .pure
  | .build _ _ => .pure
  | .slice _ _ _ _ _ => .pure
  | .makeInterface _ _ => .pure
  | .typeAssert _ _ _ _ => .pure
  | .load _ _ => .look
  | .lookup _ _ _ _ => .look
  | .convert _ dst _ => match eDesc P dst with
    | some (.slice _) => .fresh
    | _ => .look
  | .alloc _ => .fresh
  | .box _ _ => .fresh
  | .buildSlice _ _ _ => .fresh
  | .makeMap _ _ => .fresh
  | .makeSlice _ _ _ => .fresh
  | .call c => match c.callee with
    | .builtin .len => .look
    | .builtin .min => .pure
    | .builtin .max => .pure
    | _ => .eff
  | _ => .eff
/-- An operation with its number, and a mask of all that it waits for. -/
structure EItem where
  i : Nat
  o : Oper
  m : Nat
def eMask (acc : List EItem) (es : List Edge) : Nat :=
  List.rec (motive := fun _ => Nat) 0 (fun e _ ih => match e.ground with
    | .textOnly _ => ih
    | .gcOnly _ => ih
    | _ => Nat.lor (Nat.lor (Nat.pow 2 e.on) ih) (match eNth acc e.on with | some x => x.m | none => 0)) es
def eItems (l : List Oper) : List EItem → List EItem :=
  List.rec (motive := fun _ => List EItem → List EItem) (fun acc => acc) (fun o _ ih acc => ih (acc ++ [⟨acc.length, o, eMask acc o.after.toList⟩])) l
def eIsEff (x : EItem) : Bool := match eCls P x.o with | .eff => true | _ => false
/-- How many effects it waits for. -/
def eLevel (effs : List EItem) (x : EItem) : Nat := List.rec (motive := fun _ => Nat) 0 (fun e _ ih => match Nat.testBit x.m e.i with | true => Nat.succ ih | false => ih) effs
/-- The order in which effects come as late as may be. -/
def eCanon (all effs r : List EItem) : Nat → List EItem :=
  List.rec (motive := fun _ => Nat → List EItem) (fun m => all.filter fun x => !(eIsEff P x) && Nat.beq (eLevel effs x) m)
    (fun e _ ih m => (all.filter fun x => !(eIsEff P x) && Nat.beq (eLevel effs x) m) ++ e :: ih (Nat.succ m)) r
/-- Whoever stands in this row waits for those ahead of it alone, and for all effects ahead of it; all n are there, once. -/
def eCanonOk (n : Nat) (l : List EItem) : Nat → Nat → Bool :=
  List.rec (motive := fun _ => Nat → Nat → Bool) (fun seen _ => Nat.beq seen (Nat.sub (Nat.pow 2 n) 1))
    (fun x _ ih seen effs => match Nat.beq (Nat.land x.m seen) x.m && Nat.beq (Nat.land x.m effs) effs && !(Nat.testBit seen x.i) && Nat.blt x.i n with
      | true => ih (Nat.lor seen (Nat.pow 2 x.i)) (match eIsEff P x with | true => Nat.lor effs (Nat.pow 2 x.i) | false => effs)
      | false => false) l
/-- Whoever writes what another one looks at, or writes, waits for it, or is waited for. -/
def eTouchOk (all : List Oper) (its : List EItem) : Bool :=
  its.all fun x => (match x.o.op with | .defer _ => false | .select _ _ => false | _ => true) &&
    (match x.o.dst with
      | some d => its.all fun y => Nat.beq x.i y.i || Nat.testBit x.m y.i || Nat.testBit y.m x.i || !((y.o.looksAt all.toArray).contains d || y.o.dst == some d)
      | none => true)
/-- A look that may come later: its number, what it does, the temporaries ahead of it, what it told. -/
structure EPend where
  i : Nat
  c : ECl1
  tm : ERg
  v : EV
def eCheck (k : ECall) (m : Nat) (s : ESt) (l : List EPend) : Bool :=
  List.rec (motive := fun _ => Bool) true (fun p _ ih => match Nat.testBit m p.i with
    | true => ih
    | false => EO.rec (motive := fun _ => Bool) false (fun v _ => match eSame p.v v with | true => ih | false => false) (p.c.f k p.tm s)) l
structure EClD where
  f : ECall → ERg → EDf → List EPend → ESt → EOut
def eStepD (N : Nat) (x : EItem) (ih : EClD) : EClD := match eDstOk N x.o with
  | false => ⟨fun _ _ _ _ _ => .er⟩
  | true => match eCls P x.o with
    | .look => ⟨fun k tm df pd s => EO.rec (motive := fun _ => EOut) .er (fun v s' => ih.f k (ePutD x.o.dst tm v) df (⟨x.i, eOp P x.o, tm, v⟩ :: pd) s') ((eOp P x.o).f k tm s)⟩
    | .eff => ⟨fun k tm df pd s => EO.rec (motive := fun _ => EOut) .er (fun v s' => match eCheck k x.m s' pd with
        | true => ih.f k (ePutD x.o.dst tm v) df pd s'
        | false => .er) ((eOp P x.o).f k tm s)⟩
    | _ => ⟨fun k tm df pd s => EO.rec (motive := fun _ => EOut) .er (fun v s' => ih.f k (ePutD x.o.dst tm v) df pd s') ((eOp P x.o).f k tm s)⟩
def eGuardedD (all : List Oper) (N : Nat) (x : EItem) (go ih : EClD) : EClD := match eGuard all x.o.guard with
  | none => go
  | some (some p, want) => match Nat.blt p 256 && eDstOk N x.o with
    | true => ⟨fun k tm df pd s => match ERg.get p tm with
      | .bool b => match (match b with | true => want | false => !want) with
        | true => go.f k tm df pd s
        | false => ih.f k (ePutD x.o.dst tm (.tup [])) df pd s
      | .tup [] => ih.f k (ePutD x.o.dst tm (.tup [])) df pd s
      | _ => .er⟩
    | false => ⟨fun _ _ _ _ _ => .er⟩
  | some (none, _) => ⟨fun _ _ _ _ _ => .er⟩
def eOpsD (all : List Oper) (N : Nat) (l : List EItem) : EClD :=
  List.rec (motive := fun _ => EClD) ⟨fun _ tm df _ s => .n tm df s⟩
    (fun x _ ih => eGuardedD all N x (eStepD P N x ih) ih) l
/-- A region. -/
def eRegion (N : Nat) (all : List Oper) (draw : Bool) : ECl := match draw with
  | false => eOps P all N all
  | true => match eTouchOk all (eItems all []) && eCanonOk P all.length (eCanon P (eItems all []) ((eItems all []).filter (eIsEff P)) ((eItems all []).filter (eIsEff P)) 0) 0 0 with
    | true => ⟨fun k tm df s => (eOpsD P all N (eCanon P (eItems all []) ((eItems all []).filter (eIsEff P)) ((eItems all []).filter (eIsEff P)) 0)).f k tm df [] s⟩
    | false => ⟨fun _ _ _ _ => .er⟩

inductive EF where
  | one
  | two (f : EF)
def eLoopF (f : EF) (body : ERg → EDf → ESt → EOut) : ERg → EDf → ESt → EOut :=
  EF.rec (motive := fun _ => ERg → EDf → ESt → EOut) body
    (fun _ ih tm df s => EOut.rec (motive := fun _ => EOut) .er (fun tm df s => ih tm df s) (fun i tm df s => .x i tm df s) (fun tm df s => .r tm df s) (ih tm df s)) f
def eFuel (n : Nat) : EF := Nat.rec (motive := fun _ => EF) .one (fun _ ih => .two ih) n
def eCode (N : Nat) (c : Code) : ECl :=
  Code.rec (motive := fun _ => ECl)
    (skip := ⟨fun _ tm df s => .n tm df s⟩)
    (region := fun _ ops draw => eRegion P N ops.toList draw)
    (seq := fun _ _ ia ib => ⟨fun k tm df s => EOut.rec (motive := fun _ => EOut) .er (fun tm df s => ib.f k tm df s) (fun i tm df s => .x i tm df s) (fun tm df s => .r tm df s) (ia.f k tm df s)⟩)
    (cond := fun c _ _ ia ib => ⟨fun k tm df s => match (eEvC c).f tm with
      | .bool true => ia.f k tm df s
      | .bool false => ib.f k tm df s
      | _ => .er⟩)
    (block := fun id _ ia => ⟨fun k tm df s => EOut.rec (motive := fun _ => EOut) .er (fun tm df s => .n tm df s) (fun i tm df s => match Nat.beq i id with
        | true => .n tm df s
        | false => .x i tm df s) (fun tm df s => .r tm df s) (ia.f k tm df s)⟩)
    (loop := fun _ ia => ⟨fun k tm df s => EOut.rec (motive := fun _ => EOut) .er (fun _ _ _ => .er) (fun i tm df s => .x i tm df s) (fun tm df s => .r tm df s) (eLoopF (eFuel 14) (ia.f k) tm df s)⟩)
    (rangeFunc := fun _ _ _ _ _ _ => ⟨fun _ _ _ _ => .er⟩)
    (exit := fun id => ⟨fun _ tm df s => .x id tm df s⟩)
    (scope := fun _ ia => ⟨fun _ _ _ _ => .er⟩)
    (label := fun _ => ⟨fun _ tm df s => .n tm df s⟩)
    (goto := fun _ => ⟨fun _ _ _ _ => .er⟩)
    (ret := ⟨fun _ tm df s => .r tm df s⟩)
    (refuse := fun _ => ⟨fun _ _ _ _ => .er⟩) c

def eResV (r : ResultVar) (tm : ERg) (s : ESt) : Option EV := match r with
  | .tmp t => match Nat.blt t 256 with
    | true => some (ERg.get t tm)
    | false => none
  | .cell x t => match Nat.blt x 256 with
    | true => match eLd (eAgg P t) s (ERg.get x tm) with
      | .v y _ => some y
      | .er => none
    | false => none
def eResVs (l : List ResultVar) (tm : ERg) (s : ESt) : Option (List EV) :=
  List.rec (motive := fun _ => Option (List EV)) (some []) (fun r _ ih => match eResV P r tm s with
    | some v => match ih with
      | some l => some (v :: l)
      | none => none
    | none => none) l
def eTupOf (l : List EV) : EV := match l with
  | [v] => v
  | vs => .tup vs
def eRes (fn : Func) (tm : ERg) (s : ESt) : EO := match eResVs P fn.results.toList tm s with
  | some l => .v (eTupOf l) s
  | none => .er

/-- A function's body; def: the calls that it deferred. -/
def eBody (f : FuncId) : ECl2 := match eNth P.funcs.toList f with
  | none => ⟨fun _ _ _ => .er⟩
  | some fn => match fn.body with
    | none => ⟨fun _ _ _ => .er⟩
    | some c => match Nat.ble fn.ntmps 256 && !(fn.name == "runtime.NumGoroutine") with
      | false => ⟨fun _ _ _ => .er⟩
      | true => ⟨fun k args s => match Nat.ble args.length fn.ntmps with
        | false => .er
        | true => EOut.rec (motive := fun _ => EO) .er
          (fun tm df s => match df with | [] => eRes P fn tm s | _ => .er)
          (fun _ _ _ _ => .er)
          (fun tm df s => match df with | [] => eRes P fn tm s | _ => .er) ((eCode P fn.ntmps c).f k (eRegs args 0 eRg0) [] s)⟩
def eDefers (k : ECall) (l : EDf) : ESt → Option ESt :=
  List.rec (motive := fun _ => ESt → Option ESt) (fun s => some s) (fun d _ ih s => match d.1 with
    | .fn (.func g) first caps => match (eBody P g).f k (first ++ d.2 ++ caps) s with
      | .v _ s' => ih s'
      | .er => none
    | _ => none) l
/-- A function, made ready. -/
def eFn (f : FuncId) : ECl2 := match eNth P.funcs.toList f with
  | none => ⟨fun _ _ _ => .er⟩
  | some fn => match fn.body with
    | none => ⟨fun _ _ _ => .er⟩
    | some c => match Nat.ble fn.ntmps 256 && !(fn.name == "runtime.NumGoroutine") with
      | false => ⟨fun _ _ _ => .er⟩
      | true => ⟨fun k args s => match Nat.ble args.length fn.ntmps with
        | false => .er
        | true => EOut.rec (motive := fun _ => EO) .er
          (fun tm df s => match eDefers P k df s with | some s' => eRes P fn tm s' | none => .er)
          (fun _ _ _ _ => .er)
          (fun tm df s => match eDefers P k df s with | some s' => eRes P fn tm s' | none => .er) ((eCode P fn.ntmps c).f k (eRegs args 0 eRg0) [] s)⟩

variable (I : FuncId → Option (ECall → List EV → ESt → EO))
/-- Calls, d deep; I: functions of which a contract is known. -/
def eCall (d : Nat) : ECall :=
  Nat.rec (motive := fun _ => ECall) (fun _ _ _ => .er) (fun _ ih f args s => match I f with
    | some g => g ih args s
    | none => (eFn P f).f ih args s) d
end
end Go.Proofs.YtjckpgcmfieaoaaGreatDoor
