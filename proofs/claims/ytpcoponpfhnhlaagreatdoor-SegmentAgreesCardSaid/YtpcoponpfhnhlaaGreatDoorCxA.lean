/- The canonical executor: its definition and the first steps of its soundness. Conditions: none. -/
import Derived.AtR
import Derived.RangeFuncIn
import Derived.Below
import Derived.Laws.Sem
import Derived.Laws.World
import Derived.Laws.Strings
import Derived.Laws.StructEq
import Derived.Laws.BytesArg
import Derived.Laws.RangeString
import Derived.Laws.MakeOwn
namespace Go.Cx
noncomputable section
inductive PT (α : Type) where
  | nil
  | node (l : PT α) (v : Option α) (r : PT α)
def PT.get {α : Type} (t : PT α) : Nat → Option α :=
  PT.rec (motive := fun _ => Nat → Option α) (fun _ => none)
    (fun _ v _ gl gr i => cond (Nat.beq i 0) v (cond (Nat.beq (i % 2) 1) (gl (i / 2)) (gr (i / 2 - 1)))) t
def PT.single {α : Type} (x : α) (f : Nat) : Nat → PT α :=
  Nat.rec (motive := fun _ => Nat → PT α) (fun _ => .nil)
    (fun _ s i => cond (Nat.beq i 0) (.node .nil (some x) .nil) (cond (Nat.beq (i % 2) 1) (.node (s (i / 2)) none .nil) (.node .nil none (s (i / 2 - 1))))) f
def PT.set {α : Type} (t : PT α) (x : α) : Nat → PT α :=
  PT.rec (motive := fun _ => Nat → PT α) (fun i => PT.single x (i + 1) i)
    (fun l v r sl sr i => cond (Nat.beq i 0) (.node l (some x) r) (cond (Nat.beq (i % 2) 1) (.node (sl (i / 2)) v r) (.node l v (sr (i / 2 - 1))))) t
inductive CObj where
  | cells (cs : List Value) (ro fz : Bool)
  | map (es : List MapEntry) (clock : Nat)
  | loop (l : Loop)
  | deferred (open_ : Bool)
  | iter (s : ByteArray) (pos : Nat)
  | dead
structure CH where
  n : Nat
  t : PT CObj
def CH.get (h : CH) (b : Nat) : Option CObj := h.t.get b
def CH.put (h : CH) (b : Nat) (o : CObj) : CH := { n := h.n, t := h.t.set o b }
def CH.push (h : CH) (o : CObj) : CH := { n := h.n + 1, t := h.t.set o h.n }
def CObj.cells? : CObj → Option (List Value)
  | .cells cs _ _ => some cs
  | _ => none
def CH.row (h : CH) (b : Nat) : Option (List Value) := (h.get b).bind CObj.cells?
structure Tab where
  info : TypeId → Option TypeInfo
  fn : FuncId → Option Func
  ext : FuncId → Option (Array Value → Sem Value)
  plain : TypeId → Bool
def Tab.und1 (T : Tab) (d : TypeDesc) : Option TypeDesc :=
  match d with
  | .named _ u => (T.info u).map (·.desc)
  | d => some d
def Tab.und (T : Tab) (t : TypeId) : Option TypeDesc := (T.info t).bind fun i => T.und1 i.desc
def Tab.size (T : Tab) (t : TypeId) : Option Nat := (T.info t).map (·.size)
def unk : Nat := 9223372036854775808
def flat : Value → Bool
  | .bool _ | .int _ _ | .float _ _ | .complex _ _ _ | .string _ | .pointer none | .slice none _ _ | .map none | .chan none | .nilFunc | .nilIface => true
  | _ => false
def flat1 : Value → Bool
  | .agg cs => cs.toList.all flat
  | .tuple cs => cs.toList.all flat
  | v => flat v
def lget {α : Type} (l : List α) : Nat → Option α :=
  List.rec (motive := fun _ => Nat → Option α) (fun _ => none) (fun x _ g i => Nat.rec (motive := fun _ => Option α) (some x) (fun j _ => g j) i) l
def ltake {α : Type} (l : List α) : Nat → Option (List α) :=
  List.rec (motive := fun _ => Nat → Option (List α)) (fun n => Nat.rec (motive := fun _ => Option (List α)) (some []) (fun _ _ => none) n)
    (fun x _ g n => Nat.rec (motive := fun _ => Option (List α)) (some []) (fun m _ => (g m).map (x :: ·)) n) l
def lsub {α : Type} (l : List α) : Nat → Nat → Option (List α) :=
  List.rec (motive := fun _ => Nat → Nat → Option (List α)) (fun o n => cond (Nat.beq (o + n) 0) (some []) none)
    (fun x xs g o n => Nat.rec (motive := fun _ => Option (List α)) (ltake (x :: xs) n) (fun o' _ => g o' n) o) l
def lover {α : Type} (vs : List α) : List α → Option (List α) :=
  List.rec (motive := fun _ => List α → Option (List α)) (fun xs => some xs)
    (fun v _ g xs => List.rec (motive := fun _ => Option (List α)) none (fun _ ys _ => (g ys).map (v :: ·)) xs) vs
def lsplice {α : Type} (vs : List α) (l : List α) : Nat → Option (List α) :=
  List.rec (motive := fun _ => Nat → Option (List α)) (fun o => cond (Nat.beq o 0) (lover vs []) none)
    (fun x xs g o => Nat.rec (motive := fun _ => Option (List α)) (lover vs (x :: xs)) (fun o' _ => (g o').map (x :: ·)) o) l
def repeatL (z : List Value) : Nat → List Value
  | 0 => []
  | n + 1 => z ++ repeatL z n
def tb (m i : Nat) : Bool := Nat.beq (Nat.land (Nat.shiftRight m i) 1) 1
def bytesBeq : List UInt8 → List UInt8 → Bool
  | [], [] => true
  | a :: x, b :: y => cond (Nat.beq a.toNat b.toNat) (bytesBeq x y) false
  | _, _ => false
structure CAct where
  n : Nat
  tm : PT Value
  defers : List Deferred
  rc : Option FrameMode
def undefV : Value := .tuple #[]
def constV (v : Value) : Option Value := cond (flat1 v) (some v) none
def ev (tm : PT Value) : Operand → Option Value
  | .tmp t => tm.get t
  | .const v => constV v
  | .global _ => none
  | .func f => some (.func (.func f) #[] #[])
def evs (tm : PT Value) : List Operand → Option (List Value)
  | [] => some []
  | x :: r => (ev tm x).bind fun v => (evs tm r).map (v :: ·)
def CAct.setT (a : CAct) (d : Nat) (v : Value) : CAct := cond (Nat.ble (d + 1) a.n) { a with tm := a.tm.set v d } a
def CAct.put (a : CAct) (d : Option Tmp) (v : Value) : CAct :=
  match d with | some d => a.setT d v | none => a
def ptrOf : Value → Option (Nat × Nat)
  | .pointer (some ⟨b, o, none⟩) => some (b, o)
  | _ => none
def natOf : Value → Option Nat
  | .int _ (.ofNat n) => some n
  | _ => none
def scal : Value → Bool
  | .bool _ | .int _ _ | .string _ => true
  | _ => false
def pureV (s : Sem Value) : Option Value :=
  match s with
  | .pure v => cond (scal v) (some v) none
  | _ => none
def isOne : Value → Bool
  | .agg _ | .tuple _ => false
  | _ => true
def isAggD : TypeDesc → Bool
  | .struct _ | .array _ _ => true
  | _ => false
def ceq1 (k : TypeDesc) (x y : Value) : Option Bool :=
  match k, x, y with
  | .bool, .bool a, .bool b => some (a == b)
  | .int _, .int j a, .int j' b => cond (decide (j = j')) (some (a == b)) none
  | .string, .string a, .string b => some (bytesBeq a.data.toList b.data.toList)
  | _, _, _ => none
def unfz (o : Option CObj) : Bool :=
  match o with
  | some (.cells _ false false) => true
  | _ => false
def cptr2 (h : CH) (a b : Nat × Nat) : Option Bool :=
  cond (Nat.beq a.1 b.1) (some (Nat.beq a.2 b.2)) (cond (unfz (h.get a.1) && unfz (h.get b.1)) (some false) none)
def cptr (h : CH) (x y : Value) : Option Bool :=
  match x, y with
  | .pointer none, .pointer b => some b.isNone
  | .pointer (some _), .pointer none => some false
  | x, y => (ptrOf x).bind fun a => (ptrOf y).bind fun b => cptr2 h a b
def posSize (T : Tab) (e : TypeId) : Bool :=
  match T.size e with
  | some (_ + 1) => true
  | _ => false
def ceqF (T : Tab) (h : CH) (d : TypeDesc) (x y : Value) : Option Bool :=
  match d with
  | .pointer e => cond (posSize T e) (cptr h x y) none
  | d => ceq1 d x y
def cfields (T : Tab) (h : CH) : List Field → List Value → List Value → Option Bool
  | [], _, _ => some true
  | f :: fs, xs, ys => cond (decide (f.name = "_")) none ((T.und f.type).bind fun d => (lget xs f.offset).bind fun x => (lget ys f.offset).bind fun y =>
      (ceqF T h d x y).bind fun r => cond r (cfields T h fs xs ys) (some false))
def aggOf : Value → Option (List Value)
  | .agg cs => some cs.toList
  | _ => none
def ceqSlice (x y : Value) : Option Bool :=
  match x, y with
  | .slice none _ _, .slice b _ _ => some b.isNone
  | .slice _ _ _, .slice none _ _ => some false
  | _, _ => none
def ceqMap (x y : Value) : Option Bool :=
  match x, y with
  | .map none, .map b => some b.isNone
  | .map _, .map none => some false
  | _, _ => none
def ceqIface (x y : Value) : Option Bool :=
  match x, y with
  | .nilIface, .iface _ _ => some false
  | .iface _ _, .nilIface => some false
  | _, _ => none
def ceqFunc (x y : Value) : Option Bool :=
  match x, y with
  | .nilFunc, .nilFunc => some true
  | .nilFunc, .func _ _ _ => some false
  | .func _ _ _, .nilFunc => some false
  | _, _ => none
def ceqD (T : Tab) (h : CH) (t : TypeId) (x y : Value) (d : TypeDesc) : Option Bool :=
  match d with
  | .struct fs => cond (T.plain t) ((aggOf x).bind fun xs => (aggOf y).bind fun ys => cfields T h fs.toList xs ys) none
  | .pointer e => cond (posSize T e) (cptr h x y) none
  | .slice _ => ceqSlice x y
  | .map _ _ => ceqMap x y
  | .interface _ => ceqIface x y
  | .func _ _ _ => ceqFunc x y
  | d => ceq1 d x y
def ceq (T : Tab) (h : CH) (t : TypeId) (x y : Value) : Option Bool := (T.und t).bind (ceqD T h t x y)
def cstr (op : BinOp) (a b : List UInt8) : Option Value :=
  match op with
  | .add => cond (Nat.ble (a.length + b.length) 1000000) (some (.string ⟨(a ++ b).toArray⟩)) none
  | .eql => some (.bool (bytesBeq a b))
  | .neq => some (.bool (!bytesBeq a b))
  | _ => none
def isConstO : Operand → Bool
  | .const _ => true
  | _ => false
def isIfaceD : Option TypeDesc → Bool
  | some (.interface _) => true
  | _ => false
def cintShift (op : BinOp) (k : IntKind) (a : Int) (k' : IntKind) (b : Int) : Option Value :=
  match op with
  | .shl | .shr => pureV (Op.shift op k a k' b)
  | _ => none
def cint (op : BinOp) (k : IntKind) (a : Int) (k' : IntKind) (b : Int) : Option Value :=
  match op with
  | .add => some (.int k (k.wrap (a + b)))
  | .sub => some (.int k (k.wrap (a - b)))
  | .mul => some (.int k (k.wrap (a * b)))
  | .quo | .rem => cond (decide (b = 0)) none (pureV (Op.intDiv op k a b))
  | .and | .or | .xor | .andNot => pureV (Op.intBits op k a b)
  | .shl | .shr => pureV (Op.shift op k a k' b)
  | .eql => some (.bool (decide (a = b)))
  | .neq => some (.bool (!decide (a = b)))
  | .lss => some (.bool (decide (a < b)))
  | .leq => some (.bool (decide (a ≤ b)))
  | .gtr => some (.bool (decide (b < a)))
  | .geq => some (.bool (decide (b ≤ a)))
def ceqOp (op : BinOp) (r : Option Bool) : Option Value :=
  match op with
  | .eql => r.map .bool
  | .neq => r.map fun b => .bool !b
  | _ => none
def cnilI (T : Tab) (op : BinOp) (t : TypeId) (c : Bool) : Option Value :=
  cond (c && isIfaceD (T.und t)) (ceqOp op (some true)) none
def cbin (T : Tab) (h : CH) (op : BinOp) (t : TypeId) (xo yo : Operand) (x y : Value) : Option Value :=
  match x with
  | .int k a => match y with
    | .int k' b => cond (decide (k = k')) (cint op k a k' b) (cintShift op k a k' b)
    | _ => none
  | .string a => match y with
    | .string b => cstr op a.data.toList b.data.toList
    | _ => none
  | .nilIface => match y with
    | .nilIface => cnilI T op t (isConstO xo || isConstO yo)
    | y => ceqOp op (ceq T h t .nilIface y)
  | x => ceqOp op (ceq T h t x y)
def cun (op : UnOp) (x : Value) : Option Value :=
  match x with
  | .int k n => pureV (Op.unary op (.int k n))
  | .bool b => pureV (Op.unary op (.bool b))
  | _ => none
def cbound (tm : PT Value) (d : Nat) (x : Option Operand) : Option Nat :=
  match x with
  | none => some d
  | some x => (ev tm x).bind natOf
def okBounds (cap : Nat) (l h : Nat) : Bool := Nat.ble h cap && Nat.ble l h
def strSub (s : List UInt8) (l h : Nat) : ByteArray := ⟨((s.drop l).take (h - l)).toArray⟩
def csliceStr (tm : PT Value) (s : List UInt8) (lo hi : Option Operand) : Option Value :=
  (cbound tm s.length hi).bind fun h => (cbound tm 0 lo).bind fun l => cond (okBounds s.length l h) (some (.string (strSub s l h))) none
def subAddr (a : Option Addr) (s l h m : Nat) : Option Value :=
  match a with
  | some ⟨b, o, none⟩ => some (.slice (some ⟨b, cond (Nat.beq m l) o (o + l * s), none⟩) (h - l) (m - l))
  | some _ => none
  | none => cond (Nat.beq m 0) (some (.slice none 0 0)) none
def csliceU (tm : PT Value) (a : Option Addr) (len cap s : Nat) (lo hi : Option Operand) : Option Value :=
  (cbound tm len hi).bind fun h => (cbound tm 0 lo).bind fun l => cond (okBounds len l h && Nat.beq cap (unk + s))
    (match a with | some ⟨b, o, none⟩ => some (.slice (some ⟨b, o + l * s, none⟩) (h - l) cap) | _ => none) none
def csliceK (tm : PT Value) (a : Option Addr) (len cap s : Nat) (lo hi : Option Operand) : Option Value :=
  (cbound tm len hi).bind fun h => (cbound tm 0 lo).bind fun l => cond (okBounds cap l h) (subAddr a s l h cap) none
def cslice3 (tm : PT Value) (a : Option Addr) (len cap s : Nat) (lo : Option Operand) (hi mx : Operand) : Option Value :=
  ((ev tm mx).bind natOf).bind fun m => ((ev tm hi).bind natOf).bind fun h => (cbound tm 0 lo).bind fun l =>
    cond (Nat.ble m (cond (Nat.ble unk cap) len cap) && Nat.ble (m + 1) unk && okBounds m l h) (subAddr a s l h m) none
def csliceV (tm : PT Value) (a : Option Addr) (len cap s : Nat) (lo hi mx : Option Operand) : Option Value :=
  match mx with
  | none => cond (Nat.ble unk cap) (csliceU tm a len cap s lo hi) (csliceK tm a len cap s lo hi)
  | some m => match hi with
    | some hi => cslice3 tm a len cap s lo hi m
    | none => none
def cslice (T : Tab) (tm : PT Value) (t : TypeId) (x : Value) (lo hi mx : Option Operand) : Option Value :=
  match x with
  | .string s => match T.und t with
    | some .string => match mx with
      | none => csliceStr tm s.data.toList lo hi
      | some _ => none
    | _ => none
  | .slice a len cap => match T.und t with
    | some (.slice e) => (T.size e).bind fun s => cond (Nat.ble 1 s) (csliceV tm a len cap s lo hi mx) none
    | _ => none
  | _ => none
def cpart (T : Tab) (t : TypeId) (cs : List Value) (off : Nat) : Option Value :=
  (T.info t).bind fun i => (T.und1 i.desc).bind fun d => cond (isAggD d) ((lsub cs off i.size).map fun l => .agg l.toArray) (lget cs off)
def cload (T : Tab) (h : CH) (t : TypeId) (x : Value) : Option Value :=
  (ptrOf x).bind fun p => (h.row p.1).bind fun cs => cpart T t cs p.2
def zeroCellsOf (T : Tab) (t : TypeId) : Option (List Value) :=
  (T.info t).bind fun i => i.zero.bind fun z => cond (flat1 z) (some z.cells.toList) none
def cfill (place : Nat → Option (Nat × Nat)) : List (Nat × Value) → List Value → Option (List Value)
  | [], cs => some cs
  | p :: rest, cs => (place p.1).bind fun q => cond (Nat.beq p.2.cells.toList.length q.2) ((lsplice p.2.cells.toList cs q.1).bind fun cs => cfill place rest cs) none
def cparts (tm : PT Value) : List (Nat × Operand) → Option (List (Nat × Value))
  | [] => some []
  | p :: r => (ev tm p.2).bind fun v => (cparts tm r).map ((p.1, v) :: ·)
def places (T : Tab) : List Field → Option (List (Nat × Nat))
  | [] => some []
  | f :: fs => (T.size f.type).bind fun s => (places T fs).map ((f.offset, s) :: ·)
def structOf : Option TypeDesc → Option (List Field)
  | some (.struct fs) => some fs.toList
  | _ => none
def cbuild (T : Tab) (tm : PT Value) (t : TypeId) (parts : List (Nat × Operand)) : Option Value :=
  (structOf (T.und t)).bind fun fs => (zeroCellsOf T t).bind fun z => (cparts tm parts).bind fun ps => (places T fs).bind fun pl =>
    (cfill (lget pl) ps z).map fun cs => .agg cs.toArray
def findE (T : Tab) (h : CH) (kt : TypeId) (k : Value) : List MapEntry → Nat → Option (Option (Nat × Value))
  | [], _ => some none
  | e :: es, i => (ceq T h kt k e.key).bind fun r => cond r (some (some (i, e.val))) (findE T h kt k es (i + 1))
def keyField (T : Tab) (f : Field) : Bool :=
  match T.und f.type with
  | some (.int _) | some .string | some (.pointer _) => true
  | _ => false
def keyOk (T : Tab) (kt : TypeId) (k : Value) : Bool :=
  match k with
  | .int _ _ => (match T.und kt with | some (.int _) => true | _ => false)
  | .string _ => (match T.und kt with | some .string => true | _ => false)
  | .agg cs => (match T.und kt with | some (.struct fs) => T.plain kt && fs.toList.all (fun f => keyField T f && (lget cs.toList f.offset).isSome) | _ => false)
  | _ => false
def mapOf (h : CH) (m : Value) : Option (List MapEntry) :=
  match m with
  | .map none => some []
  | .map (some b) => match h.get b with
    | some (.map es _) => some es
    | _ => none
  | _ => none
def okPair (ok b : Bool) (v : Value) : Value := cond ok (.tuple #[v, .bool b]) v
def zeroOf (T : Tab) (t : TypeId) : Option Value := (T.info t).bind fun i => i.zero.bind constV
def clookup (T : Tab) (h : CH) (t : TypeId) (m k : Value) (ok : Bool) : Option Value :=
  match T.und t with
  | some (.map kt et) => cond (keyOk T kt k) ((mapOf h m).bind fun es => (findE T h kt k es 0).bind fun r => match r with
    | some p => some (okPair ok true p.2)
    | none => (zeroOf T et).map (okPair ok false)) none
  | _ => none
def isU8 : Value → Bool
  | .int .u8 _ => true
  | _ => false
def byteV : Value → UInt8
  | .int _ q => UInt8.ofNat q.toNat
  | _ => 0
def isU8D : Option TypeDesc → Bool
  | some (.int .u8) => true
  | _ => false
def cbytes (h : CH) (a : Option Addr) (n : Nat) : Option (List Value) :=
  match a with
  | none => some []
  | some ⟨b, o, none⟩ => (h.row b).bind fun cs => lsub cs o n
  | some _ => none
def cconvS (T : Tab) (h : CH) (e : TypeId) (a : Option Addr) (n : Nat) : Option Value :=
  cond (isU8D (T.und e)) ((cbytes h a n).bind fun l => cond (l.all isU8) (some (.string ⟨(l.map byteV).toArray⟩)) none) none
def cconv (T : Tab) (h : CH) (s d : TypeId) (x : Value) : Option Value :=
  (T.und s).bind fun ds => (T.und d).bind fun dd => match x with
    | .int _ n => match dd with
      | .int k => some (.int k (k.wrap n))
      | _ => none
    | .string b => match ds, dd with
      | .string, .string => some (.string b)
      | _, _ => none
    | .slice a n _ => match ds, dd with
      | .slice e, .string => cconvS T h e a n
      | _, _ => none
    | _ => none
def clen (T : Tab) (h : CH) (t : TypeId) (x : Value) : Option Value :=
  (T.und t).bind fun d => match d, x with
    | .string, .string s => some (.int .i64 s.data.toList.length)
    | .slice _, .slice _ n _ => some (.int .i64 n)
    | .map _ _, m => (mapOf h m).map fun es => .int .i64 es.length
    | _, _ => none
def ccap (T : Tab) (t : TypeId) (x : Value) : Option Value :=
  (T.und t).bind fun d => match d, x with
    | .slice _, .slice _ _ c => cond (Nat.ble unk c) none (some (.int .i64 c))
    | _, _ => none
def cminmax (mx : Bool) (x y : Value) : Option Value :=
  match x, y with
  | .int k a, .int _ b => some (.int k (cond mx (if b > a then b else a) (if b < a then b else a)))
  | _, _ => none
def cblt (T : Tab) (h : CH) (b : Builtin) (ts : List TypeId) (args : List Value) : Option Value :=
  match b with
  | .len => ts.head?.bind fun t => args.head?.bind fun x => clen T h t x
  | .cap => ts.head?.bind fun t => args.head?.bind fun x => ccap T t x
  | .min => match args with | [x, y] => cminmax false x y | _ => none
  | .max => match args with | [x, y] => cminmax true x y | _ => none
  | _ => none
def cpick (tm : PT Value) (c : Value) (a b : Operand) : Option Value :=
  match c with
  | .bool true => ev tm a
  | .bool false => ev tm b
  | _ => none
def cnil (x : Value) : Option Value :=
  match x with
  | .pointer (some a) => some (.pointer (some a))
  | .func (.func f) a b => some (.func (.func f) a b)
  | _ => none
def cmkI (T : Tab) (t : TypeId) (x : Value) : Option Value :=
  (T.und t).bind fun d => match d with
    | .interface _ => none
    | _ => some (.iface t x)
def cmkF (tm : PT Value) (fn : Fn) (first cap : List Operand) : Option Value :=
  match fn with
  | .func f => (evs tm first).bind fun a => (evs tm cap).map fun b => .func (.func f) a.toArray b.toArray
  | _ => none
def cfieldAddr (T : Tab) (s : TypeId) (x : Value) (f : Nat) : Option Value :=
  (structOf (T.und s)).bind fun fs => (lget fs f).bind fun fd => (ptrOf x).bind fun p => cond (posSize T fd.type) (some (.pointer (some ⟨p.1, p.2 + fd.offset, none⟩))) none
def cfield (T : Tab) (s : TypeId) (x : Value) (f : Nat) : Option Value :=
  (structOf (T.und s)).bind fun fs => (lget fs f).bind fun fd => (aggOf x).bind fun cs => cpart T fd.type cs fd.offset
def rowOf (d : TypeDesc) (x : Value) : Option ((Nat × Nat) × Nat × TypeId) :=
  match d with
  | .slice e => match x with
    | .slice (some ⟨b, o, none⟩) len _ => some ((b, o), len, e)
    | _ => none
  | .array len e => (ptrOf x).map fun p => (p, len, e)
  | _ => none
def cindexAddr (T : Tab) (t : TypeId) (x ix : Value) : Option Value :=
  (T.und t).bind fun d => (rowOf d x).bind fun r => (natOf ix).bind fun i => (T.size r.2.2).bind fun s =>
    cond (Nat.ble (i + 1) r.2.1) (some (.pointer (some ⟨r.1.1, r.1.2 + i * s, none⟩))) none
def cindex (T : Tab) (t : TypeId) (x ix : Value) : Option Value :=
  match x with
  | .string s => match T.und t with
    | some .string => (natOf ix).bind fun i => (lget s.data.toList i).map fun c => .int .u8 c.toNat
    | _ => none
  | _ => none
def cextract (x : Value) (i : Nat) : Option Value :=
  match x with
  | .tuple vs => lget vs.toList i
  | _ => none
def cassert (T : Tab) (x : Value) (t : TypeId) (ok : Bool) : Option Value :=
  match x with
  | .iface u v => cond (isIfaceD (T.und t) || !Nat.beq u t) none ((T.und t).map fun _ => okPair ok true v)
  | _ => none
def cfl (T : Tab) (tm : PT Value) (h : CH) (o : Oper) : Option Value :=
  match o.op with
  | .move x => ev tm x
  | .assign x => ev tm x
  | .pick c a b => (ev tm c).bind fun c => cpick tm c a b
  | .build t parts => cbuild T tm t parts.toList
  | .load t a => (ev tm a).bind (cload T h t)
  | .nilCheck x => (ev tm x).bind cnil
  | .binOp op t x y _ => (ev tm x).bind fun a => (ev tm y).bind fun b => cbin T h op t x y a b
  | .unOp op _ x => (ev tm x).bind (cun op)
  | .convert s d x => (ev tm x).bind (cconv T h s d)
  | .makeInterface t x => (ev tm x).bind (cmkI T t)
  | .makeFunc fn first cap => cmkF tm fn first.toList cap.toList
  | .slice t x lo hi mx => (ev tm x).bind fun v => cslice T tm t v lo hi mx
  | .fieldAddr s x f => (ev tm x).bind fun v => cfieldAddr T s v f
  | .field s x f => (ev tm x).bind fun v => cfield T s v f
  | .indexAddr t x ix => (ev tm x).bind fun v => (ev tm ix).bind fun i => cindexAddr T t v i
  | .index t x ix => (ev tm x).bind fun v => (ev tm ix).bind fun i => cindex T t v i
  | .lookup t m k ok => (ev tm m).bind fun m => (ev tm k).bind fun k => clookup T h t m k ok
  | .extract x i => (ev tm x).bind fun v => cextract v i
  | .typeAssert x _ t ok => (ev tm x).bind fun v => cassert T v t ok
  | .call c => match c.callee with
    | .builtin b => (evs tm c.args.toList).bind (cblt T h b c.argTypes.toList)
    | _ => none
  | _ => none
def floatC (c : Callee) : Bool :=
  match c with
  | .builtin .len | .builtin .cap | .builtin .min | .builtin .max => true
  | _ => false
def floatOp (op : Op) : Bool :=
  match op with
  | .move _ | .assign _ | .pick .. | .build .. | .load .. | .nilCheck _ | .binOp .. | .unOp .. | .convert .. | .makeInterface .. | .makeFunc .. | .slice .. | .fieldAddr .. | .field ..
  | .indexAddr .. | .index .. | .lookup .. | .extract .. | .typeAssert .. => true
  | .call c => floatC c.callee
  | _ => false
inductive CTgt where
  | fn (f : FuncId) (args : List Value)
  | round (l : Nat) (f : FuncId) (n : Nat) (tm : PT Value) (assign body : Code)
inductive COut where
  | val (v : Value) (h : CH)
  | call (t : CTgt)
  | defer (d : Deferred)
  | recover
  | panic (v : Value)
  | bad
def COut.of {α : Type} (x : Option α) (f : α → COut) : COut :=
  match x with
  | some a => f a
  | none => .bad
def hnew (h : CH) (o : CObj) (k : Nat → Value) : COut := .val (k h.n) (h.push o)
def wrow (h : CH) (b : Nat) : Option (List Value × Bool) :=
  match h.get b with
  | some (.cells cs false fz) => some (cs, fz)
  | _ => none
def cstore (T : Tab) (h : CH) (t : TypeId) (x v : Value) : COut :=
  COut.of (ptrOf x) fun p => COut.of (T.size t) fun s => COut.of (wrow h p.1) fun r => cond (Nat.beq v.cells.toList.length s && v.cells.toList.all isOne)
    (COut.of (lsplice v.cells.toList r.1 p.2) fun cs => .val undefV (h.put p.1 (.cells cs false r.2))) .bad
def isIntD : Option TypeDesc → Bool
  | some (.int _) => true
  | _ => false
def isSliceD : Option TypeDesc → Bool
  | some (.slice _) => true
  | _ => false
def isStrD : Option TypeDesc → Bool
  | some .string => true
  | _ => false
def csrc (T : Tab) (h : CH) (s : Nat) (e : TypeId) (t2 : Option TypeId) (x : Value) : Option (Nat × List Value) :=
  match x with
  | .slice a n _ => cond (isSliceD (t2.bind T.und)) (match a with
    | none => cond (Nat.beq n 0) (some (0, [])) none
    | some ⟨b, o, none⟩ => (h.row b).bind fun cs => (lsub cs o (n * s)).map fun l => (n, l)
    | some _ => none) none
  | .string b => cond (Nat.beq s 1 && isStrD (t2.bind T.und)) (some (b.data.toList.length, b.data.toList.map fun q => .int .u8 q.toNat)) none
  | .int .i64 (.ofNat n) => (zeroCellsOf T e).bind fun z => cond (isIntD (t2.bind T.und) && Nat.ble n 1000000 && Nat.beq z.length s) (some (n, repeatL z n)) none
  | _ => none
def appU (h : CH) (s len n : Nat) (new : List Value) (a : Option Addr) : COut :=
  match a with
  | some ⟨b, o, none⟩ => COut.of (wrow h b) fun r => COut.of (lsub r.1 o (len * s)) fun old =>
      .val (.slice (some ⟨h.n, 0, none⟩) (len + n) (unk + s)) ((h.put b .dead).push (.cells (old ++ new) false r.2))
  | _ => .bad
def appIn (h : CH) (s len cap n : Nat) (new : List Value) (a : Option Addr) : COut :=
  match n with
  | 0 => .val (.slice a len cap) h
  | n => match a with
    | some ⟨b, o, none⟩ => COut.of (wrow h b) fun r => COut.of (lsplice new r.1 (o + len * s)) fun cs => .val (.slice (some ⟨b, o, none⟩) (len + n) cap) (h.put b (.cells cs false r.2))
    | _ => .bad
def appNew (h : CH) (s len n : Nat) (new : List Value) (a : Option Addr) : COut :=
  COut.of (match a with
    | some ⟨b, o, none⟩ => (h.row b).bind fun cs => lsub cs o (len * s)
    | none => cond (Nat.beq len 0) (some []) none
    | some _ => none) fun old => .val (.slice (some ⟨h.n, 0, none⟩) (len + n) (unk + s)) (h.push (.cells (old ++ new) false false))
def cappend2 (h : CH) (s bytes len cap : Nat) (a : Option Addr) (z : List Value) (n : Nat) (new : List Value) : COut :=
  cond (Nat.ble 1 s && Nat.ble 1 bytes && Nat.beq z.length s && Nat.ble ((4 * (len + n) + 4000) * bytes) 281474976710656 && new.all isOne)
    (cond (Nat.ble unk cap) (cond (Nat.beq cap (unk + s)) (appU h s len n new a) .bad) (cond (Nat.ble (len + n) cap) (appIn h s len cap n new a) (appNew h s len n new a))) .bad
def cappend (T : Tab) (h : CH) (ts : List TypeId) (v x : Value) : COut :=
  match v with
  | .slice a len cap => COut.of ts.head? fun t => match T.und t with
    | some (.slice e) => COut.of (T.info e) fun i => COut.of (zeroCellsOf T e) fun z => COut.of (csrc T h i.size e ts.tail.head? x) fun p => cappend2 h i.size i.bytes len cap a z p.1 p.2
    | _ => .bad
  | _ => .bad
def cmapPut (T : Tab) (h : CH) (kt : TypeId) (b : Nat) (k v : Value) (es : List MapEntry) (clock : Nat) : COut :=
  COut.of (findE T h kt k es 0) fun r => match r with
    | some p => cond (scal k) (.val undefV (h.put b (.map (es.modify p.1 fun e => { e with val := v }) clock))) .bad
    | none => .val undefV (h.put b (.map (es ++ [{ key := k, val := v, born := clock }]) (clock + 1)))
def cmapUpdate (T : Tab) (h : CH) (t : TypeId) (m k v : Value) : COut :=
  match T.und t with
  | some (.map kt _) => match m with
    | .map (some b) => match h.get b with
      | some (.map es clock) => cond (keyOk T kt k) (cmapPut T h kt b k v es clock) .bad
      | _ => .bad
    | _ => .bad
  | _ => .bad
def cmakeSlice (T : Tab) (h : CH) (t : TypeId) (l c : Value) : COut :=
  match T.und t with
  | some (.slice e) => COut.of (natOf l) fun l => COut.of (natOf c) fun c => COut.of (T.info e) fun i => COut.of (zeroCellsOf T e) fun z =>
    cond (Nat.beq z.length i.size && Nat.ble (i.bytes * c) 281474976710656 && Nat.ble c 1000000 && Nat.ble l c && Nat.ble 1 i.size)
      (hnew h (.cells (repeatL z c) false false) fun b => .slice (some ⟨b, 0, none⟩) l c) .bad
  | _ => .bad
def cbuildSlice (T : Tab) (tm : PT Value) (h : CH) (t : TypeId) (len : Nat) (parts : List (Nat × Operand)) : COut :=
  match T.und t with
  | some (.slice e) => COut.of (cparts tm parts) fun ps => COut.of (T.info e) fun i => COut.of (zeroCellsOf T e) fun z =>
    cond (Nat.beq z.length i.size && Nat.ble (len * i.size) 1000000 && Nat.ble 1 i.size && ps.all fun p => p.2.cells.toList.all isOne)
      (COut.of (cfill (fun j => some (j * i.size, i.size)) ps (repeatL z len)) fun cs => hnew h (.cells cs false false) fun b => .slice (some ⟨b, 0, none⟩) len len) .bad
  | _ => .bad
def cnext (h : CH) (x : Value) (isString : Bool) : COut :=
  cond isString (COut.of (ptrOf x) fun p => cond (Nat.beq p.2 0) (match h.get p.1 with
    | some (.iter s pos) => match lget s.data.toList pos with
      | some c => cond (Nat.ble (c.toNat + 1) 128) (.val (.tuple #[.bool true, .int .i64 pos, .int .i32 c.toNat]) (h.put p.1 (.iter s (pos + 1))))
          (.val (.tuple #[.bool true, .int .i64 pos, .int .i32 (Utf8.decode s pos).1]) (h.put p.1 (.iter s (pos + (Utf8.decode s pos).2))))
      | none => .val (.tuple #[.bool false]) h
    | _ => .bad) .bad) .bad
def cext (T : Tab) (h : CH) (f : FuncId) (args : List Value) : COut :=
  COut.of (T.ext f) fun s => cond (args.all scal) (COut.of (pureV (s args.toArray)) fun v => .val v h) .bad
def setArgs (n : Nat) (tm : PT Value) : List (Nat × Value) → PT Value
  | [] => tm
  | p :: r => setArgs n (cond (Nat.ble (p.1 + 1) n) (tm.set p.2 p.1) tm) r
def argsTree (l : List Value) : Nat → PT Value → PT Value :=
  List.rec (motive := fun _ => Nat → PT Value → PT Value) (fun _ t => t) (fun v _ g i t => g (i + 1) (t.set v i)) l
def ccallee (T : Tab) (h : CH) (f : Value) (args : List Value) : COut :=
  match f with
  | .func (.func f) first cap => match T.fn f with
    | some _ => .call (.fn f (first.toList ++ args ++ cap.toList))
    | none => match first.toList ++ cap.toList with
      | [] => cext T h f args
      | _ => .bad
  | .func (.yield l) first cap => match first.toList ++ cap.toList with
    | [] => match h.get l with
      | some (.loop r) => cond (Nat.beq args.length r.params.toList.length)
          (.call (.round l r.fn r.tmps.toList.length (setArgs r.tmps.toList.length (argsTree r.tmps.toList 0 .nil) (r.params.toList.zip args)) r.assign r.body)) .bad
      | _ => .bad
    | _ => .bad
  | _ => .bad
def cdefer (T : Tab) (tm : PT Value) (c : Call) : COut :=
  match c.callee with
  | .value f => COut.of (ev tm f) fun f => COut.of (evs tm c.args.toList) fun args => match f with
    | .func (.func g) first cap => COut.of (T.fn g) fun _ => .defer { target := .fn (.func g) cap, args := first ++ args.toArray }
    | _ => .bad
  | _ => .bad
def cpanic (x : Value) : COut :=
  match x with
  | .iface t v => .panic (.iface t v)
  | _ => .bad
def cmakeMap (T : Tab) (tm : PT Value) (h : CH) (t : TypeId) (r : Option Operand) : COut :=
  match r with
  | none => hnew h (.map [] 0) fun b => .map (some b)
  | some r => COut.of ((ev tm r).bind natOf) fun _ => match T.und t with
    | some (.map _ _) => hnew h (.map [] 0) fun b => .map (some b)
    | _ => .bad
def crange (T : Tab) (h : CH) (t : TypeId) (x : Value) : COut :=
  match x with
  | .string s => match T.und t with
    | some .string => hnew h (.iter s 0) fun b => .pointer (some ⟨b, 0, none⟩)
    | _ => .bad
  | _ => .bad
def cbox (h : CH) (v : Value) : COut :=
  cond (v.cells.toList.all isOne) (hnew h (.cells v.cells.toList false false) fun b => .pointer (some ⟨b, 0, none⟩)) .bad
def ccallB (T : Tab) (tm : PT Value) (h : CH) (c : Call) (b : Builtin) : COut :=
  match b with
  | .append => match c.args.toList with
    | [s, x] => COut.of (ev tm s) fun s => COut.of (ev tm x) fun x => cappend T h c.argTypes.toList s x
    | _ => .bad
  | .recover => .recover
  | b => COut.of (evs tm c.args.toList) fun args => COut.of (cblt T h b c.argTypes.toList args) fun v => .val v h
def ccallO (T : Tab) (tm : PT Value) (h : CH) (c : Call) : COut :=
  match c.callee with
  | .value f => COut.of (ev tm f) fun g => COut.of (evs tm c.args.toList) fun args => ccallee T h g args
  | .builtin b => ccallB T tm h c b
  | _ => .bad
def cop (T : Tab) (tm : PT Value) (h : CH) (o : Oper) : COut :=
  match o.op with
  | .alloc e => COut.of (zeroCellsOf T e) fun z => hnew h (.cells z false false) fun b => .pointer (some ⟨b, 0, none⟩)
  | .box _ x => COut.of (ev tm x) (cbox h)
  | .buildSlice t len parts => cbuildSlice T tm h t len parts.toList
  | .store t a x => COut.of (ev tm a) fun a => COut.of (ev tm x) fun v => cstore T h t a v
  | .makeMap t r => cmakeMap T tm h t r
  | .makeSlice t l c => COut.of (ev tm l) fun l => COut.of (ev tm c) fun c => cmakeSlice T h t l c
  | .mapUpdate t m k x => COut.of (ev tm m) fun m => COut.of (ev tm k) fun k => COut.of (ev tm x) fun v => cmapUpdate T h t m k v
  | .insert t m k x => COut.of (ev tm m) fun m => COut.of (ev tm k) fun k => COut.of (ev tm x) fun v => cmapUpdate T h t m k v
  | .range t x => COut.of (ev tm x) (crange T h t)
  | .next it s => COut.of (ev tm it) fun x => cnext h x s
  | .defer c => cdefer T tm c
  | .panic x => COut.of (ev tm x) cpanic
  | .call c => ccallO T tm h c
  | _ => COut.of (cfl T tm h o) fun v => .val v h
inductive CEx where
  | normal
  | exit (id : Nat)
  | ret
  | panic (chain : List PanicEntry)
inductive CRes where
  | ret (v : Value)
  | panic (chain : List PanicEntry)
abbrev Kall := CRes → Option FrameMode → CH → Bool
abbrev Callf := CTgt → Option FrameMode → CH → Kall → Bool
abbrev Kcode := CEx → CAct → CH → Bool
def guardOf (tm : PT Value) (w : Bool) (d : Nat) : Option Bool :=
  match tm.get d with
  | some (.bool b) => some (b == w)
  | some (.tuple _) => some false
  | _ => none
def dstAt (ops : List Oper) (j : Nat) : Option Tmp := (lget ops j).bind (·.dst)
def cwant (ops : List Oper) (tm : PT Value) (o : Oper) : Option Bool :=
  match o.guard with
  | none => some true
  | some p => (dstAt ops p.1).bind (guardOf tm p.2)
def recov : FrameMode → Option (Value × FrameMode)
  | .panicking (⟨v, false, false⟩ :: older) => some (v, .panicking (⟨v, true, false⟩ :: older))
  | _ => none
def c1rec (rnd : Bool) (d : Option Tmp) (a : CAct) (h : CH) (K : Kcode) : Bool :=
  cond rnd false (match a.rc with
    | some m => match recov m with
      | some p => K .normal { a.put d p.1 with rc := some p.2 } h
      | none => K .normal (a.put d .nilIface) h
    | none => false)
def c1out (cf : Callf) (rnd : Bool) (d : Option Tmp) (a : CAct) (h : CH) (K : Kcode) (r : COut) : Bool :=
  match r with
  | .val v h => K .normal (a.put d v) h
  | .call t => cf t none h fun r _ h => match r with
    | .ret v => K .normal (a.put d v) h
    | .panic ch => K (.panic ch) a h
  | .defer x => cond rnd false (K .normal { a.put d undefV with defers := x :: a.defers } h)
  | .recover => c1rec rnd d a h K
  | .panic v => K (.panic [{ v, recovered := false }]) a h
  | .bad => false
def c1 (T : Tab) (cf : Callf) (rnd : Bool) (ops : List Oper) (o : Oper) (a : CAct) (h : CH) (K : Kcode) : Bool :=
  match cwant ops a.tm o with
  | none => false
  | some false => K .normal (a.put o.dst undefV) h
  | some true => c1out cf rnd o.dst a h K (cop T a.tm h o)
def kthen (next : CAct → CH → Bool) (K : Kcode) : Kcode := fun ex a h =>
  match ex with
  | .normal => next a h
  | ex => K ex a h
def cops (T : Tab) (cf : Callf) (rnd : Bool) (ops : List Oper) (l : List Oper) : CAct → CH → Kcode → Bool :=
  List.rec (motive := fun _ => CAct → CH → Kcode → Bool) (fun a h K => K .normal a h) (fun o _ g a h K => c1 T cf rnd ops o a h (kthen (fun a h => g a h K) K)) l
def tmask : List Operand → Nat → Nat
  | [], m => m
  | .tmp t :: r, m => tmask r (Nat.lor m (2 ^ t))
  | _ :: r, m => tmask r m
def omask (d : Option Tmp) (m : Nat) : Nat :=
  match d with
  | some d => Nat.lor m (2 ^ d)
  | none => m
def looks (ops : List Oper) (o : Oper) : Nat :=
  match o.guard with
  | none => tmask o.op.operands.toList 0
  | some p => omask (dstAt ops p.1) (tmask o.op.operands.toList 0)
def bindOn (o : Oper) : List Nat := (o.after.toList.filter (Region.binds .any)).map (·.on)
structure OpM where
  deps : List Nat
  before : Nat
  looks : Nat
  dst : Option Tmp
def maskOf (ms : List OpM) (i : Nat) : Nat :=
  match lget ms i with
  | some m => m.before
  | none => 0
def opMs (ops : List Oper) : List Oper → List OpM → List OpM
  | [], acc => acc
  | o :: r, acc => opMs ops r (acc ++ [{ deps := bindOn o, before := (bindOn o).foldl (fun s j => Nat.lor s (Nat.lor (2 ^ j) (maskOf acc j))) 0, looks := looks ops o, dst := o.dst }])
def offD (d : Option Tmp) (m : Nat) : Bool :=
  match d with
  | some d => !tb m d
  | none => true
def neD (d e : Option Tmp) : Bool :=
  match d, e with
  | some d, some e => !Nat.beq d e
  | _, _ => true
def pairsJ (y : OpM) : List OpM → Nat → Nat → Bool
  | [], _, _ => true
  | x :: r, i, j => cond (Nat.ble j i) true ((tb y.before i || (offD x.dst y.looks && neD x.dst y.dst && offD y.dst x.looks)) && pairsJ y r (i + 1) j)
def pairsOk (ms : List OpM) : List OpM → Nat → Bool
  | [], _ => true
  | y :: r, j => y.deps.all (fun e => Nat.ble (e + 1) j) && pairsJ y ms 0 j && pairsOk ms r (j + 1)
structure Held where
  i : Nat
  o : Oper
  tm : PT Value
  v : Value
structure Stage where
  listed : Nat
  a : CAct
  held : List Held
def depsIn (deps : List Nat) (listed : Nat) : Bool := deps.all fun e => tb listed e
def readsHeapC (c : Callee) : Bool :=
  match c with
  | .builtin .len => true
  | _ => false
def readsHeap (op : Op) : Bool :=
  match op with
  | .load .. | .convert .. | .lookup .. | .binOp .. => true
  | .call c => readsHeapC c.callee
  | _ => false
def takeF (T : Tab) (ops : List Oper) (h : CH) (o : Oper) (i : Nat) (s : Stage) : Option Stage :=
  (cwant ops s.a.tm o).bind fun w => cond w
    ((cfl T s.a.tm h o).map fun v => { listed := Nat.lor s.listed (2 ^ i), a := s.a.put o.dst v, held := ⟨i, o, s.a.tm, v⟩ :: s.held })
    (some { listed := Nat.lor s.listed (2 ^ i), a := s.a.put o.dst undefV, held := s.held })
def greedy (T : Tab) (ops : List Oper) (h : CH) : List Oper → List OpM → Nat → Stage → Option Stage
  | o :: r, m :: ms, i, s => cond (!tb s.listed i && floatOp o.op && depsIn m.deps s.listed) ((takeF T ops h o i s).bind (greedy T ops h r ms (i + 1))) (greedy T ops h r ms (i + 1) s)
  | _, _, _, s => some s
def readyE : List Oper → List OpM → Nat → Nat → List (Nat × Oper)
  | o :: r, m :: ms, i, listed => cond (!tb listed i && !floatOp o.op && depsIn m.deps listed) ((i, o) :: readyE r ms (i + 1) listed) (readyE r ms (i + 1) listed)
  | _, _, _, _ => []
def same0 : Value → Value → Bool
  | .bool a, .bool b => a == b
  | .int j a, .int k b => decide (j = k) && decide (a = b)
  | .string a, .string b => bytesBeq a.data.toList b.data.toList
  | .pointer none, .pointer none => true
  | .pointer (some ⟨a, b, none⟩), .pointer (some ⟨c, d, none⟩) => Nat.beq a c && Nat.beq b d
  | .slice none a b, .slice none c d => Nat.beq a c && Nat.beq b d
  | .slice (some ⟨a, b, none⟩) l c, .slice (some ⟨a', b', none⟩) l' c' => Nat.beq a a' && Nat.beq b b' && Nat.beq l l' && Nat.beq c c'
  | .map none, .map none => true
  | .map (some a), .map (some b) => Nat.beq a b
  | .nilFunc, .nilFunc => true
  | .nilIface, .nilIface => true
  | _, _ => false
def same0s : List Value → List Value → Bool
  | [], [] => true
  | a :: x, b :: y => same0 a b && same0s x y
  | _, _ => false
def sameV : Value → Value → Bool
  | .agg a, .agg b => same0s a.toList b.toList
  | .tuple a, .tuple b => same0s a.toList b.toList
  | .func (.func f) a b, .func (.func g) c d => Nat.beq f g && same0s a.toList c.toList && same0s b.toList d.toList
  | a, b => same0 a b
def recheck (T : Tab) (B : Nat) (h : CH) : List Held → Option (List Held)
  | [] => some []
  | q :: r => cond (tb B q.i) (recheck T B h r) (cond (readsHeap q.o.op)
      ((cfl T q.tm h q.o).bind fun v => cond (sameV v q.v) ((recheck T B h r).map (q :: ·)) none)
      ((recheck T B h r).map (q :: ·)))
def c1e (T : Tab) (cf : Callf) (ops : List Oper) (o : Oper) (tm : PT Value) (h : CH) (Kv : Value → CH → Bool) : Bool :=
  match cwant ops tm o with
  | none => false
  | some false => Kv undefV h
  | some true => match cop T tm h o with
    | .val v h => Kv v h
    | .call (.fn f args) => cf (.fn f args) none h fun r _ h => match r with
      | .ret v => Kv v h
      | .panic _ => false
    | _ => false
def kdraw (T : Tab) (ms : List OpM) (next : Stage → CH → Kcode → Bool) (s : Stage) (K : Kcode) (i : Nat) (d : Option Tmp) (v : Value) (h : CH) : Bool :=
  match recheck T (maskOf ms i) h s.held with
  | some held => next { listed := Nat.lor s.listed (2 ^ i), a := s.a.put d v, held } h K
  | none => false
def cdraw1 (T : Tab) (cf : Callf) (ops : List Oper) (ms : List OpM) (all : Nat) (next : Stage → CH → Kcode → Bool) (s : Stage) (h : CH) (K : Kcode) : Bool :=
  match readyE ops ms 0 s.listed with
  | [] => cond (Nat.beq s.listed all) (K .normal s.a h) false
  | xs => xs.all fun x => c1e T cf ops x.2 s.a.tm h (kdraw T ms next s K x.1 x.2.dst)
def cdraw (T : Tab) (cf : Callf) (ops : List Oper) (ms : List OpM) (all : Nat) : Nat → Stage → CH → Kcode → Bool
  | 0, _, _, _ => false
  | n + 1, s, h, K => match greedy T ops h ops ms 0 s with
    | none => false
    | some s => cdraw1 T cf ops ms all (cdraw T cf ops ms all n) s h K
def cregionD (T : Tab) (cf : Callf) (ops : List Oper) (ms : List OpM) (a : CAct) (h : CH) (K : Kcode) : Bool :=
  cond (pairsOk ms ms 0) (cdraw T cf ops ms (2 ^ ops.length - 1) (ops.length + 1) { listed := 0, a, held := [] } h K) false
def cregion (T : Tab) (cf : Callf) (rnd : Bool) (ops : List Oper) (d : Bool) (a : CAct) (h : CH) (K : Kcode) : Bool :=
  cond d (cregionD T cf ops (opMs ops ops []) a h K) (cops T cf rnd ops ops a h K)
def cloop (body : CAct → CH → Kcode → Bool) (n : Nat) : CAct → CH → Kcode → Bool :=
  Nat.rec (motive := fun _ => CAct → CH → Kcode → Bool) (fun _ _ _ => false) (fun _ g a h K => body a h (kthen (fun a h => g a h K) K)) n
def kblock (id : Nat) (K : Kcode) : Kcode := fun ex a h =>
  match ex with
  | .exit id' => cond (Nat.beq id' id) (K .normal a h) (K (.exit id') a h)
  | ex => K ex a h
def tmList (tm : PT Value) : Nat → List Value → List Value
  | 0, acc => acc
  | n + 1, acc => tmList tm n ((tm.get n).getD undefV :: acc)
def crfEnd (d l : Nat) (a : CAct) (h : CH) (K : Kcode) : Bool :=
  match h.get l with
  | some (.loop r) => cond (decide (r.state = .busy)) false (
      (fun (h : CH) (a : CAct) => match r.pending with
        | none => K .normal a h
        | some .ret => K .ret a h
        | some (.exit id) => K (.exit id) a h
        | some _ => false) (h.put l (.loop { r with state := .exhausted })) { a with defers := { target := .collected d, args := #[] } :: a.defers })
  | _ => false
def crf (T : Tab) (cf : Callf) (fid : FuncId) (ps : Array Tmp) (assign body : Code) (g : Value) (a : CAct) (h : CH) (K : Kcode) : Bool :=
  (fun (h' : CH) => match ccallee T h' g [.func (.yield (h.n + 1)) #[] #[]] with
    | .call (.fn f args) => cf (.fn f args) none h' fun r _ h' => match r with
      | .ret _ => crfEnd h.n (h.n + 1) a h' K
      | .panic _ => false
    | _ => false)
  ((h.push (.deferred true)).push (.loop { state := .ready, pending := none, fn := fid, tmps := (tmList a.tm a.n []).toArray, params := ps, assign, body, defers := h.n }))
def ccond (c : Option Value) (x y : Unit → Bool) : Bool :=
  match c with
  | some (.bool true) => x ()
  | some (.bool false) => y ()
  | _ => false
def ccode (T : Tab) (cf : Callf) (L : Nat) (fid : FuncId) (rnd : Bool) : Code → CAct → CH → Kcode → Bool
  | .skip, a, h, K => K .normal a h
  | .label _, a, h, K => K .normal a h
  | .seq x y, a, h, K => ccode T cf L fid rnd x a h (kthen (fun a h => ccode T cf L fid rnd y a h K) K)
  | .cond c x y, a, h, K => ccond (ev a.tm c) (fun _ => ccode T cf L fid rnd x a h K) (fun _ => ccode T cf L fid rnd y a h K)
  | .block id c, a, h, K => ccode T cf L fid rnd c a h (kblock id K)
  | .loop c, a, h, K => cloop (ccode T cf L fid rnd c) L a h K
  | .scope c, a, h, K => ccode T cf L fid rnd c a h K
  | .exit id, a, h, K => K (.exit id) a h
  | .ret, a, h, K => K .ret a h
  | .region _ ops d, a, h, K => cregion T cf rnd ops.toList d a h K
  | .rangeFunc f ps assign body, a, h, K => cond rnd false (match ev a.tm f with
    | some g => crf T cf fid ps assign body g a h K
    | none => false)
  | .goto _, _, _, _ => false
  | .refuse _, _, _, _ => false
def cresult1 (T : Tab) (tm : PT Value) (h : CH) : ResultVar → Option Value
  | .tmp t => tm.get t
  | .cell a t => (tm.get a).bind (cload T h t)
def cresults1 (T : Tab) (tm : PT Value) (h : CH) : List ResultVar → Option (List Value)
  | [] => some []
  | r :: rs => (cresult1 T tm h r).bind fun v => (cresults1 T tm h rs).map (v :: ·)
def cresults (T : Tab) (fn : Func) (tm : PT Value) (h : CH) : Option Value :=
  (cresults1 T tm h fn.results.toList).map fun vs => match vs with
    | [v] => v
    | vs => .tuple vs.toArray
def settleC : FrameMode → FrameMode
  | .panicking (⟨_, true, _⟩ :: older) => match older.dropWhile (!·.goexit) with
    | [] => .returning
    | rest => .panicking rest
  | m => m
def raisedC (m : FrameMode) (chain : List PanicEntry) : FrameMode :=
  match m with
  | .panicking old => .panicking (chain ++ old)
  | _ => .panicking chain
def cleave0 (T : Tab) (fn : Func) (tm : PT Value) (rc : Option FrameMode) (m : FrameMode) (h : CH) (K : Kall) : Bool :=
  match m with
  | .returning => match cresults T fn tm h with
    | some v => K (.ret v) rc h
    | none => false
  | .panicking chain => K (.panic chain) rc h
  | .run => false
def cleaveD (T : Tab) (cf : Callf) (d : Deferred) (m : FrameMode) (h : CH) (next : FrameMode → CH → Bool) : Bool :=
  match d.target with
  | .collected b => match h.get b with
    | some (.deferred true) => next m (h.put b (.deferred false))
    | _ => false
  | .fn (.func f) cap => match T.fn f with
    | some _ => cf (.fn f (d.args.toList ++ cap.toList)) (some m) h fun r m' h => match m' with
      | some m' => match r with
        | .ret _ => next (settleC m') h
        | .panic chain => next (raisedC m' chain) h
      | none => false
    | none => false
  | _ => false
def cleave (T : Tab) (cf : Callf) (fn : Func) (tm : PT Value) (rc : Option FrameMode) : List Deferred → FrameMode → CH → Kall → Bool
  | [], m, h, K => cleave0 T fn tm rc m h K
  | d :: ds, m, h, K => cleaveD T cf d m h fun m h => cleave T cf fn tm rc ds m h K
def cend (l : Nat) (jump : Option Code) (h : CH) (K : Kall) : Bool :=
  match h.get l with
  | some (.loop r) => K (.ret (.bool jump.isNone)) none (h.put l (.loop { r with state := if jump.isNone then .ready else .done, pending := jump }))
  | _ => false
def cround2 (l : Nat) (K : Kall) : Kcode := fun ex _ h =>
  match ex with
  | .normal => cend l none h K
  | .ret => cend l (some .ret) h K
  | .exit id => cend l (some (.exit id)) h K
  | .panic _ => false
def cround1 (T : Tab) (cf : Callf) (L l : Nat) (f : FuncId) (body : Code) (K : Kall) : Kcode := fun ex a h =>
  match ex with
  | .normal => match h.get l with
    | some (.loop r) => cond (decide (r.state = .ready)) (ccode T cf L f true body a (h.put l (.loop { r with state := .busy })) (cround2 l K)) false
    | _ => false
  | _ => false
def kleave (T : Tab) (cf : Callf) (fn : Func) (K : Kall) : Kcode := fun ex a h =>
  match ex with
  | .normal => cleave T cf fn a.tm a.rc a.defers .returning h K
  | .ret => cleave T cf fn a.tm a.rc a.defers .returning h K
  | .panic chain => cleave T cf fn a.tm a.rc a.defers (.panicking chain) h K
  | .exit _ => false
def ccallS (T : Tab) (cf : Callf) (L : Nat) (t : CTgt) (rc : Option FrameMode) (h : CH) (K : Kall) : Bool :=
  match t with
  | .fn f args => match T.fn f with
    | some fn => match fn.body with
      | some c => cond (Nat.ble args.length fn.ntmps) (ccode T cf L f false c { n := fn.ntmps, tm := argsTree args 0 .nil, defers := [], rc } h (kleave T cf fn K)) false
      | none => false
    | none => false
  | .round l f n tm assign body => ccode T cf L f true assign { n, tm, defers := [], rc := none } h (cround1 T cf L l f body K)
def ccall (T : Tab) (L : Nat) (n : Nat) : Callf :=
  Nat.rec (motive := fun _ => Callf) (fun _ _ _ _ => false) (fun _ g => ccallS T g L) n
def closedTrue (T : Tab) (L n : Nat) (f : FuncId) : Bool :=
  ccall T L n (.fn f []) none { n := 0, t := .nil } fun r _ _ => match r with
    | .ret (.bool b) => b
    | _ => false
def odds {α : Type} : List α → List α
  | _ :: x :: r => x :: odds r
  | _ => []
def PT.ofList {α : Type} : Nat → List α → PT α
  | 0, _ => .nil
  | _, [] => .nil
  | n + 1, x :: r => .node (PT.ofList n (odds (x :: r))) (some x) (PT.ofList n (odds r))
end
end Go.Cx
namespace Go.Cx
theorem cond_eq {α : Type} (b : Bool) (x y : α) : cond b x y = if b = true then x else y := by cases b <;> rfl
theorem nbeq (a b : Nat) : (Nat.beq a b = true) ↔ a = b := ⟨Nat.eq_of_beq_eq_true, fun h => by subst h; exact Nat.beq_refl a⟩
theorem nble (a b : Nat) : (Nat.ble a b = true) ↔ a ≤ b := ⟨Nat.le_of_ble_eq_true, Nat.ble_eq_true_of_le⟩
theorem nbeq_ff (a b : Nat) : (Nat.beq a b = false) ↔ a ≠ b := by
  rw [← Bool.not_eq_true, nbeq]
theorem nble_ff (a b : Nat) : (Nat.ble a b = false) ↔ b < a := by
  rw [← Bool.not_eq_true, nble]; omega
theorem PT.get_nil {α : Type} (i : Nat) : (PT.nil : PT α).get i = none := rfl
theorem PT.get_node {α : Type} (l : PT α) (v : Option α) (r : PT α) (i : Nat) :
    (PT.node l v r).get i = if i = 0 then v else if i % 2 = 1 then l.get (i / 2) else r.get (i / 2 - 1) := by
  show cond (Nat.beq i 0) v (cond (Nat.beq (i % 2) 1) (l.get (i / 2)) (r.get (i / 2 - 1))) = _
  simp only [cond_eq, nbeq]
theorem PT.single_succ {α : Type} (x : α) (f i : Nat) :
    PT.single x (f + 1) i = if i = 0 then .node .nil (some x) .nil else if i % 2 = 1 then .node (PT.single x f (i / 2)) none .nil else .node .nil none (PT.single x f (i / 2 - 1)) := by
  show cond (Nat.beq i 0) (PT.node .nil (some x) .nil) (cond (Nat.beq (i % 2) 1) (PT.node (PT.single x f (i / 2)) none .nil) (PT.node .nil none (PT.single x f (i / 2 - 1)))) = _
  simp only [cond_eq, nbeq]
theorem PT.get_single {α : Type} (x : α) : ∀ (f i j : Nat), i < f → (PT.single x f i).get j = if j = i then some x else none := by
  intro f
  induction f with
  | zero => intro i j h; omega
  | succ f ih =>
    intro i j h
    rw [PT.single_succ]
    by_cases h0 : i = 0
    · subst h0
      rw [if_pos rfl, PT.get_node]
      by_cases hj : j = 0
      · simp [hj]
      · rw [if_neg hj, if_neg hj]; split <;> rfl
    · rw [if_neg h0]
      by_cases h1 : i % 2 = 1
      · rw [if_pos h1, PT.get_node, ih (i / 2) (j / 2) (by omega)]
        by_cases hj : j = 0
        · rw [if_pos hj, if_neg (by omega)]
        · rw [if_neg hj]
          by_cases hj1 : j % 2 = 1
          · rw [if_pos hj1]
            by_cases e : j = i
            · subst e; simp
            · rw [if_neg e, if_neg (by omega)]
          · rw [if_neg hj1, if_neg (by omega)]; rfl
      · rw [if_neg h1, PT.get_node, ih (i / 2 - 1) (j / 2 - 1) (by omega)]
        by_cases hj : j = 0
        · rw [if_pos hj, if_neg (by omega)]
        · rw [if_neg hj]
          by_cases hj1 : j % 2 = 1
          · rw [if_pos hj1, if_neg (by omega)]; rfl
          · rw [if_neg hj1]
            by_cases e : j = i
            · subst e; simp
            · rw [if_neg e, if_neg (by omega)]
theorem PT.set_node {α : Type} (l : PT α) (v : Option α) (r : PT α) (x : α) (i : Nat) :
    (PT.node l v r).set x i = if i = 0 then .node l (some x) r else if i % 2 = 1 then .node (l.set x (i / 2)) v r else .node l v (r.set x (i / 2 - 1)) := by
  show cond (Nat.beq i 0) (PT.node l (some x) r) (cond (Nat.beq (i % 2) 1) (PT.node (l.set x (i / 2)) v r) (PT.node l v (r.set x (i / 2 - 1)))) = _
  simp only [cond_eq, nbeq]
theorem PT.get_set {α : Type} (x : α) (t : PT α) : ∀ (i j : Nat), (t.set x i).get j = if j = i then some x else t.get j := by
  induction t with
  | nil =>
    intro i j
    show (PT.single x (i + 1) i).get j = _
    rw [PT.get_single x (i + 1) i j (by omega)]
    rfl
  | node l v r ihl ihr =>
    intro i j
    rw [PT.set_node]
    by_cases h0 : i = 0
    · subst h0
      rw [if_pos rfl, PT.get_node, PT.get_node]
      by_cases hj : j = 0
      · simp [hj]
      · simp [hj]
    · rw [if_neg h0]
      by_cases h1 : i % 2 = 1
      · rw [if_pos h1, PT.get_node, PT.get_node, ihl]
        by_cases hj : j = 0
        · rw [if_pos hj, if_pos hj, if_neg (by omega)]
        · rw [if_neg hj, if_neg hj]
          by_cases hj1 : j % 2 = 1
          · rw [if_pos hj1, if_pos hj1]
            by_cases e : j = i
            · subst e; simp
            · rw [if_neg e, if_neg (by omega)]
          · rw [if_neg hj1, if_neg hj1, if_neg (by omega)]
      · rw [if_neg h1, PT.get_node, PT.get_node, ihr]
        by_cases hj : j = 0
        · rw [if_pos hj, if_pos hj, if_neg (by omega)]
        · rw [if_neg hj, if_neg hj]
          by_cases hj1 : j % 2 = 1
          · rw [if_pos hj1, if_pos hj1, if_neg (by omega)]
          · rw [if_neg hj1, if_neg hj1]
            by_cases e : j = i
            · subst e; simp
            · rw [if_neg e, if_neg (by omega)]
theorem CH.get_put (h : CH) (b : Nat) (o : CObj) (c : Nat) : (h.put b o).get c = if c = b then some o else h.get c := PT.get_set o h.t b c
theorem CH.get_push (h : CH) (o : CObj) (c : Nat) : (h.push o).get c = if c = h.n then some o else h.get c := PT.get_set o h.t h.n c
theorem CH.n_put (h : CH) (b : Nat) (o : CObj) : (h.put b o).n = h.n := rfl
theorem CH.n_push (h : CH) (o : CObj) : (h.push o).n = h.n + 1 := rfl
theorem CH.row_eq {h : CH} {b : Nat} {cs : List Value} (hr : h.row b = some cs) : ∃ ro fz, h.get b = some (.cells cs ro fz) := by
  unfold CH.row at hr
  obtain ⟨o, ho, hc⟩ := Option.bind_eq_some_iff.1 hr
  cases o <;> simp [CObj.cells?] at hc
  subst hc
  exact ⟨_, _, ho⟩
theorem lget_eq {α : Type} : ∀ (l : List α) (i : Nat), lget l i = l[i]?
  | [], _ => rfl
  | _ :: _, 0 => rfl
  | _ :: xs, i + 1 => (lget_eq xs i).trans (by simp)
theorem ltake_some {α : Type} : ∀ (l : List α) (n : Nat) (r : List α), ltake l n = some r → n ≤ l.length ∧ r = l.take n
  | [], 0, r, h => by cases h; simp
  | [], n + 1, r, h => by cases h
  | x :: xs, 0, r, h => by cases h; simp
  | x :: xs, n + 1, r, h => by
    have h' : (ltake xs n).map (x :: ·) = some r := h
    obtain ⟨y, hy, rfl⟩ := Option.map_eq_some_iff.1 h'
    obtain ⟨h1, rfl⟩ := ltake_some xs n y hy
    exact ⟨by simp; omega, by simp⟩
theorem lsub_some {α : Type} : ∀ (l : List α) (o n : Nat) (r : List α), lsub l o n = some r → o + n ≤ l.length ∧ r = (l.drop o).take n
  | [], o, n, r, h => by
    have h' : cond (Nat.beq (o + n) 0) (some []) none = some r := h
    rw [cond_eq] at h'
    by_cases e : Nat.beq (o + n) 0 = true
    · rw [if_pos e] at h'
      have := (nbeq _ _).1 e
      cases h'
      exact ⟨by simp; omega, by simp⟩
    · rw [if_neg e] at h'; cases h'
  | x :: xs, 0, n, r, h => by
    have h' : ltake (x :: xs) n = some r := h
    obtain ⟨h1, h2⟩ := ltake_some _ _ _ h'
    exact ⟨by simp at *; omega, by simp [h2]⟩
  | x :: xs, o + 1, n, r, h => by
    have h' : lsub xs o n = some r := h
    obtain ⟨h1, h2⟩ := lsub_some _ _ _ _ h'
    exact ⟨by simp at *; omega, by simp [h2]⟩
theorem lover_some {α : Type} : ∀ (vs xs r : List α), lover vs xs = some r → vs.length ≤ xs.length ∧ r = vs ++ xs.drop vs.length
  | [], xs, r, h => by cases h; simp
  | v :: vs, [], r, h => by cases h
  | v :: vs, x :: xs, r, h => by
    have h' : (lover vs xs).map (v :: ·) = some r := h
    obtain ⟨y, hy, rfl⟩ := Option.map_eq_some_iff.1 h'
    obtain ⟨h1, rfl⟩ := lover_some vs xs y hy
    exact ⟨by simp; omega, by simp⟩
theorem lsplice_some {α : Type} (vs : List α) : ∀ (l : List α) (o : Nat) (r : List α), lsplice vs l o = some r → o + vs.length ≤ l.length ∧ r = l.take o ++ vs ++ l.drop (o + vs.length)
  | [], o, r, h => by
    have h' : cond (Nat.beq o 0) (lover vs []) none = some r := h
    rw [cond_eq] at h'
    by_cases e : Nat.beq o 0 = true
    · rw [if_pos e] at h'
      have := (nbeq _ _).1 e
      obtain ⟨h1, h2⟩ := lover_some _ _ _ h'
      simp only [List.length_nil] at h1
      exact ⟨by simp only [List.length_nil]; omega, by simp [h2]⟩
    · rw [if_neg e] at h'; cases h'
  | x :: xs, 0, r, h => by
    have h' : lover vs (x :: xs) = some r := h
    obtain ⟨h1, h2⟩ := lover_some _ _ _ h'
    exact ⟨by simp at *; omega, by simp [h2]⟩
  | x :: xs, o + 1, r, h => by
    have h' : (lsplice vs xs o).map (x :: ·) = some r := h
    obtain ⟨y, hy, rfl⟩ := Option.map_eq_some_iff.1 h'
    obtain ⟨h1, rfl⟩ := lsplice_some vs xs o y hy
    have e : o + 1 + vs.length = (o + vs.length) + 1 := by omega
    exact ⟨by simp only [List.length_cons]; omega, by rw [e]; rfl⟩
theorem lsplice_get {α : Type} {vs l r : List α} {o : Nat} (h : lsplice vs l o = some r) (i : Nat) :
    r[i]? = if o ≤ i ∧ i < o + vs.length then vs[i - o]? else l[i]? := by
  obtain ⟨h1, rfl⟩ := lsplice_some vs l o r h
  by_cases a : i < o
  · rw [if_neg (by omega), List.append_assoc, List.getElem?_append_left (by simp; omega), List.getElem?_take, if_pos a]
  · by_cases b : i < o + vs.length
    · rw [if_pos ⟨by omega, b⟩, List.getElem?_append_left (by simp; omega), List.getElem?_append_right (by simp; omega)]
      simp [Nat.min_eq_left (show o ≤ l.length by omega)]
    · rw [if_neg (by omega), List.getElem?_append_right (by simp; omega), List.getElem?_drop]
      congr 1
      simp [Nat.min_eq_left (show o ≤ l.length by omega)]
      omega
theorem lsplice_length {α : Type} {vs l r : List α} {o : Nat} (h : lsplice vs l o = some r) : r.length = l.length := by
  obtain ⟨h1, rfl⟩ := lsplice_some vs l o r h
  simp
  omega
theorem bytesBeq_iff : ∀ (x y : List UInt8), bytesBeq x y = true ↔ x = y
  | [], [] => by simp [bytesBeq]
  | [], _ :: _ => by simp [bytesBeq]
  | _ :: _, [] => by simp [bytesBeq]
  | a :: x, b :: y => by
    rw [bytesBeq, cond_eq]
    by_cases e : Nat.beq a.toNat b.toNat = true
    · rw [if_pos e, bytesBeq_iff x y]
      have : a = b := UInt8.toNat_inj.1 ((nbeq _ _).1 e)
      simp [this]
    · rw [if_neg e]
      have : a ≠ b := fun h => e ((nbeq _ _).2 (by rw [h]))
      simp [this]
theorem bytesBeq_eq (x y : List UInt8) : bytesBeq x y = (x == y) := by
  rw [Bool.eq_iff_iff, bytesBeq_iff, beq_iff_eq]
theorem obind {α β : Type} {x : Option α} {f : α → Option β} {r : β} (h : x.bind f = some r) : ∃ a, x = some a ∧ f a = some r := Option.bind_eq_some_iff.1 h
theorem omap {α β : Type} {x : Option α} {f : α → β} {r : β} (h : x.map f = some r) : ∃ a, x = some a ∧ f a = r := Option.map_eq_some_iff.1 h
theorem ocond {α : Type} {b : Bool} {x : Option α} {r : α} (h : cond b x none = some r) : b = true ∧ x = some r := by
  cases b
  · cases h
  · exact ⟨rfl, h⟩
theorem ocond' {α : Type} {b : Bool} {x : Option α} {r : α} (h : cond b none x = some r) : b = false ∧ x = some r := by
  cases b
  · exact ⟨rfl, h⟩
  · cases h
end Go.Cx
namespace Go.Cx
open Go.RowKit (Below)
abbrev Env := Nat → Option (Nat × Nat × Nat)
def Ext (e e' : Env) : Prop := ∀ b x, e b = some x → e' b = some x
theorem Ext.refl (e : Env) : Ext e e := fun _ _ h => h
theorem Ext.trans {a b c : Env} (h : Ext a b) (k : Ext b c) : Ext a c := fun i x hx => k i x (h i x hx)
mutual
inductive VR (e : Env) : Value → Value → Prop
  | flat {v : Value} (h : flat v = true) : VR e v v
  | ptr {b o r sh K : Nat} (h : e b = some (r, sh, K)) : VR e (.pointer (some ⟨b, o, none⟩)) (.pointer (some ⟨r, sh + o, none⟩))
  | slice {b o l c r sh K : Nat} (h : e b = some (r, sh, K)) (hc : c < unk) : VR e (.slice (some ⟨b, o, none⟩) l c) (.slice (some ⟨r, sh + o, none⟩) l c)
  | sliceU {b o l s r sh K c : Nat} (h : e b = some (r, sh, K)) (hl : l ≤ c) (hK : sh + o + c * s = K) : VR e (.slice (some ⟨b, o, none⟩) l (unk + s)) (.slice (some ⟨r, sh + o, none⟩) l c)
  | sliceE {b o c r sh K : Nat} {ra : Addr} (h : e b = some (r, sh, K)) (hc : c = 0 ∨ unk ≤ c) : VR e (.slice (some ⟨b, o, none⟩) 0 c) (.slice (some ra) 0 0)
  | map {b r sh K : Nat} (h : e b = some (r, sh, K)) : VR e (.map (some b)) (.map (some r))
  | func {f : Nat} {a b a' b' : Array Value} (ha : VL e a.toList a'.toList) (hb : VL e b.toList b'.toList) : VR e (.func (.func f) a b) (.func (.func f) a' b')
  | yield {l r sh K : Nat} (h : e l = some (r, sh, K)) : VR e (.func (.yield l) #[] #[]) (.func (.yield r) #[] #[])
  | iface {t : TypeId} {v v' : Value} (h : VR e v v') : VR e (.iface t v) (.iface t v')
  | agg {a a' : Array Value} (h : VL e a.toList a'.toList) : VR e (.agg a) (.agg a')
  | tuple {a a' : Array Value} (h : VL e a.toList a'.toList) : VR e (.tuple a) (.tuple a')
inductive VL (e : Env) : List Value → List Value → Prop
  | nil : VL e [] []
  | cons {v v' : Value} {l l' : List Value} (h : VR e v v') (t : VL e l l') : VL e (v :: l) (v' :: l')
end
mutual
theorem VR.mono {e e' : Env} (he : Ext e e') : ∀ {v v' : Value}, VR e v v' → VR e' v v'
  | _, _, .flat h => .flat h
  | _, _, .ptr h => .ptr (he _ _ h)
  | _, _, .slice h hc => .slice (he _ _ h) hc
  | _, _, .sliceU h hl hK => .sliceU (he _ _ h) hl hK
  | _, _, .sliceE h hc => .sliceE (he _ _ h) hc
  | _, _, .map h => .map (he _ _ h)
  | _, _, .func ha hb => .func (VL.mono he ha) (VL.mono he hb)
  | _, _, .yield h => .yield (he _ _ h)
  | _, _, .iface h => .iface (VR.mono he h)
  | _, _, .agg h => .agg (VL.mono he h)
  | _, _, .tuple h => .tuple (VL.mono he h)
theorem VL.mono {e e' : Env} (he : Ext e e') : ∀ {v v' : List Value}, VL e v v' → VL e' v v'
  | _, _, .nil => .nil
  | _, _, .cons h t => .cons (VR.mono he h) (VL.mono he t)
end
section
variable {e : Env}
theorem VL.length : ∀ {l l' : List Value}, VL e l l' → l.length = l'.length
  | _, _, .nil => rfl
  | _, _, .cons _ t => by simp [t.length]
theorem VL.append : ∀ {a a' b b' : List Value}, VL e a a' → VL e b b' → VL e (a ++ b) (a' ++ b')
  | _, _, _, _, .nil, k => k
  | _, _, _, _, .cons h t, k => .cons h (t.append k)
theorem VL.get : ∀ {l l' : List Value}, VL e l l' → ∀ (i : Nat) (v : Value), l[i]? = some v → ∃ v', l'[i]? = some v' ∧ VR e v v'
  | _, _, .nil, i, v, h => by simp at h
  | _, _, .cons h _, 0, v, hv => by
    simp only [List.getElem?_cons_zero, Option.some.injEq] at hv
    subst hv
    exact ⟨_, rfl, h⟩
  | _, _, .cons _ t, i + 1, v, hv => by
    simp only [List.getElem?_cons_succ] at hv ⊢
    exact t.get i v hv
theorem VL.of_get : ∀ {l l' : List Value}, l.length = l'.length → (∀ (i : Nat) (v v' : Value), l[i]? = some v → l'[i]? = some v' → VR e v v') → VL e l l'
  | [], [], _, _ => .nil
  | [], _ :: _, h, _ => by simp at h
  | _ :: _, [], h, _ => by simp at h
  | a :: l, b :: l', h, k => .cons (k 0 a b rfl rfl) (VL.of_get (by simpa using h) fun i v v' hv hv' => k (i + 1) v v' (by simpa using hv) (by simpa using hv'))
theorem VL.drop : ∀ {l l' : List Value} (n : Nat), VL e l l' → VL e (l.drop n) (l'.drop n)
  | _, _, 0, h => h
  | _, _, _ + 1, .nil => .nil
  | _, _, n + 1, .cons _ t => t.drop n
theorem VL.take : ∀ {l l' : List Value} (n : Nat), VL e l l' → VL e (l.take n) (l'.take n)
  | _, _, 0, h => by simp; exact .nil
  | _, _, _ + 1, .nil => .nil
  | _, _, n + 1, .cons h t => .cons h (t.take n)
theorem VL.flat : ∀ {l : List Value}, l.all flat = true → VL e l l
  | [], _ => .nil
  | v :: l, h => by
    simp only [List.all_cons, Bool.and_eq_true] at h
    exact .cons (.flat h.1) (VL.flat h.2)
theorem VR.flat1 {v : Value} (h : flat1 v = true) : VR e v v := by
  unfold Cx.flat1 at h
  split at h
  · exact .agg (.flat h)
  · exact .tuple (.flat h)
  · exact .flat h
theorem VR.undef : VR e undefV undefV := .tuple .nil
theorem VR.int {k : IntKind} {n : Int} {v : Value} (h : VR e (.int k n) v) : v = .int k n := by cases h; rfl
theorem VR.bool {b : Bool} {v : Value} (h : VR e (.bool b) v) : v = .bool b := by cases h; rfl
theorem VR.string {s : ByteArray} {v : Value} (h : VR e (.string s) v) : v = .string s := by cases h; rfl
theorem VR.pnil {v : Value} (h : VR e (.pointer none) v) : v = .pointer none := by cases h; rfl
theorem VR.snil {l c : Nat} {v : Value} (h : VR e (.slice none l c) v) : v = .slice none l c := by cases h; rfl
theorem VR.mnil {v : Value} (h : VR e (.map none) v) : v = .map none := by cases h; rfl
theorem VR.fnil {v : Value} (h : VR e .nilFunc v) : v = .nilFunc := by cases h; rfl
theorem VR.inil {v : Value} (h : VR e .nilIface v) : v = .nilIface := by cases h; rfl
theorem VR.ptrI {b o : Nat} {v : Value} (h : VR e (.pointer (some ⟨b, o, none⟩)) v) : ∃ r sh K, e b = some (r, sh, K) ∧ v = .pointer (some ⟨r, sh + o, none⟩) := by
  cases h with
  | flat h => simp [Cx.flat] at h
  | ptr h => exact ⟨_, _, _, h, rfl⟩
theorem VR.mapI {b : Nat} {v : Value} (h : VR e (.map (some b)) v) : ∃ r sh K, e b = some (r, sh, K) ∧ v = .map (some r) := by
  cases h with
  | flat h => simp [Cx.flat] at h
  | map h => exact ⟨_, _, _, h, rfl⟩
theorem VR.aggI {a : Array Value} {v : Value} (h : VR e (.agg a) v) : ∃ a', v = .agg a' ∧ VL e a.toList a'.toList := by
  cases h with
  | flat h => simp [Cx.flat] at h
  | agg h => exact ⟨_, rfl, h⟩
theorem VR.tupleI {a : Array Value} {v : Value} (h : VR e (.tuple a) v) : ∃ a', v = .tuple a' ∧ VL e a.toList a'.toList := by
  cases h with
  | flat h => simp [Cx.flat] at h
  | tuple h => exact ⟨_, rfl, h⟩
theorem VR.ifaceI {t : TypeId} {a v : Value} (h : VR e (.iface t a) v) : ∃ a', v = .iface t a' ∧ VR e a a' := by
  cases h with
  | flat h => simp [Cx.flat] at h
  | iface h => exact ⟨_, rfl, h⟩
theorem VR.funcI {f : Nat} {a b : Array Value} {v : Value} (h : VR e (.func (.func f) a b) v) : ∃ a' b', v = .func (.func f) a' b' ∧ VL e a.toList a'.toList ∧ VL e b.toList b'.toList := by
  cases h with
  | flat h => simp [Cx.flat] at h
  | func ha hb => exact ⟨_, _, rfl, ha, hb⟩
theorem VR.yieldI {l : Nat} {a b : Array Value} {v : Value} (h : VR e (.func (.yield l) a b) v) : ∃ r sh K, e l = some (r, sh, K) ∧ v = .func (.yield r) #[] #[] := by
  cases h with
  | flat h => simp [Cx.flat] at h
  | yield h => exact ⟨_, _, _, h, rfl⟩
theorem VR.sliceI {b o l c : Nat} {v : Value} (h : VR e (.slice (some ⟨b, o, none⟩) l c) v) :
    ∃ r sh K, e b = some (r, sh, K) ∧ ((c < unk ∧ v = .slice (some ⟨r, sh + o, none⟩) l c) ∨ (∃ s c', c = unk + s ∧ v = .slice (some ⟨r, sh + o, none⟩) l c' ∧ l ≤ c' ∧ sh + o + c' * s = K) ∨
      (∃ (ra : Addr) (oa : Nat), (c = 0 ∨ unk ≤ c) ∧ l = 0 ∧ v = .slice (some ra) 0 0)) := by
  cases h with
  | flat h => simp [Cx.flat] at h
  | slice h hc => exact ⟨_, _, _, h, .inl ⟨hc, rfl⟩⟩
  | sliceU h hl hK => exact ⟨_, _, _, h, .inr (.inl ⟨_, _, rfl, rfl, hl, hK⟩)⟩
  | sliceE h hc => exact ⟨_, _, _, h, .inr (.inr ⟨_, 0, hc, rfl, rfl⟩)⟩
theorem VR.cells {v v' : Value} (h : VR e v v') : VL e v.cells.toList v'.cells.toList := by
  cases h with
  | agg h => exact h
  | flat h => cases v <;> first | (simp [Cx.flat] at h; done) | exact .cons (.flat h) .nil
  | ptr h => exact .cons (.ptr h) .nil
  | slice h hc => exact .cons (.slice h hc) .nil
  | sliceU h hl hK => exact .cons (.sliceU h hl hK) .nil
  | sliceE h hc => exact .cons (.sliceE h hc) .nil
  | map h => exact .cons (.map h) .nil
  | func ha hb => exact .cons (.func ha hb) .nil
  | yield h => exact .cons (.yield h) .nil
  | iface h => exact .cons (.iface h) .nil
  | tuple h => exact .cons (.tuple h) .nil
theorem VR.one {v v' : Value} (h : VR e v v') (h1 : isOne v = true) : v'.oneCell' = true := by
  cases h <;> first | rfl | (simp [isOne] at h1; done) | (cases v <;> first | rfl | (simp [isOne] at h1; done))
end
inductive DR (e : Env) : Deferred → Deferred → Prop
  | call {f : Nat} {cap cap' args args' : Array Value} (hc : VL e cap.toList cap'.toList) (ha : VL e args.toList args'.toList) : DR e { target := .fn (.func f) cap, args } { target := .fn (.func f) cap', args := args' }
  | coll {b r : Nat} (h : e b = some (r, 0, 0)) : DR e { target := .collected b, args := #[] } { target := .collected r, args := #[] }
inductive DL (e : Env) : List Deferred → List Deferred → Prop
  | nil : DL e [] []
  | cons {d d' : Deferred} {l l' : List Deferred} (h : DR e d d') (t : DL e l l') : DL e (d :: l) (d' :: l')
inductive PL (e : Env) : List PanicEntry → List PanicEntry → Prop
  | nil : PL e [] []
  | cons {v v' : Value} {r g : Bool} {l l' : List PanicEntry} (h : VR e v v') (t : PL e l l') : PL e (⟨v, r, g⟩ :: l) (⟨v', r, g⟩ :: l')
inductive MR (e : Env) : FrameMode → FrameMode → Prop
  | ret : MR e .returning .returning
  | pan {l l' : List PanicEntry} (h : PL e l l') : MR e (.panicking l) (.panicking l')
theorem DR.mono {e e' : Env} (he : Ext e e') {d d' : Deferred} (h : DR e d d') : DR e' d d' := by
  cases h with
  | call hc ha => exact .call (hc.mono he) (ha.mono he)
  | coll h => exact .coll (he _ _ h)
theorem DL.mono {e e' : Env} (he : Ext e e') : ∀ {l l' : List Deferred}, DL e l l' → DL e' l l'
  | _, _, .nil => .nil
  | _, _, .cons h t => .cons (h.mono he) (t.mono he)
theorem PL.mono {e e' : Env} (he : Ext e e') : ∀ {l l' : List PanicEntry}, PL e l l' → PL e' l l'
  | _, _, .nil => .nil
  | _, _, .cons h t => .cons (h.mono he) (t.mono he)
theorem PL.append {e : Env} : ∀ {a a' b b' : List PanicEntry}, PL e a a' → PL e b b' → PL e (a ++ b) (a' ++ b')
  | _, _, _, _, .nil, k => k
  | _, _, _, _, .cons h t, k => .cons h (t.append k)
theorem MR.mono {e e' : Env} (he : Ext e e') {m m' : FrameMode} (h : MR e m m') : MR e' m m' := by
  cases h with
  | ret => exact .ret
  | pan h => exact .pan (h.mono he)
inductive EL (e : Env) : List MapEntry → List MapEntry → Prop
  | nil : EL e [] []
  | cons {k k' v v' : Value} {n : Nat} {l l' : List MapEntry} (hk : VR e k k') (hv : VR e v v') (t : EL e l l') : EL e (⟨k, v, n⟩ :: l) (⟨k', v', n⟩ :: l')
theorem EL.mono {e e' : Env} (he : Ext e e') : ∀ {l l' : List MapEntry}, EL e l l' → EL e' l l'
  | _, _, .nil => .nil
  | _, _, .cons hk hv t => .cons (hk.mono he) (hv.mono he) (t.mono he)
theorem EL.length {e : Env} : ∀ {l l' : List MapEntry}, EL e l l' → l.length = l'.length
  | _, _, .nil => rfl
  | _, _, .cons _ _ t => by simp [t.length]
theorem EL.append {e : Env} : ∀ {a a' b b' : List MapEntry}, EL e a a' → EL e b b' → EL e (a ++ b) (a' ++ b')
  | _, _, _, _, .nil, k => k
  | _, _, _, _, .cons hk hv t, k => .cons hk hv (t.append k)
structure TR (e : Env) (n : Nat) (tm : PT Value) (a : Array Value) : Prop where
  size : a.size = n
  lt : ∀ t v, tm.get t = some v → t < n
  val : ∀ t v', a[t]? = some v' → VR e ((tm.get t).getD undefV) v'
theorem TR.mono {e e' : Env} (he : Ext e e') {n : Nat} {tm : PT Value} {a : Array Value} (h : TR e n tm a) : TR e' n tm a := ⟨h.size, h.lt, fun t v' hv => (h.val t v' hv).mono he⟩
theorem TR.get {e : Env} {n : Nat} {tm : PT Value} {a : Array Value} (h : TR e n tm a) {t : Nat} {v : Value} (hv : tm.get t = some v) : ∃ v', a[t]? = some v' ∧ VR e v v' := by
  have hl := h.lt t v hv
  have hs := h.size
  refine ⟨a[t], Array.getElem?_eq_getElem (by omega), ?_⟩
  have := h.val t _ (Array.getElem?_eq_getElem (show t < a.size by omega))
  simpa [hv] using this
structure LR (e : Env) (l l' : Loop) : Prop where
  state : l'.state = l.state
  pending : l'.pending = l.pending
  fn : l'.fn = l.fn
  params : l'.params = l.params
  assign : l'.assign = l.assign
  body : l'.body = l.body
  tmps : VL e l.tmps.toList l'.tmps.toList
def OR (B0 : Nat) (e : Env) (w : World) (b : Nat) : CObj → Prop
  | .cells cs ro fz => ∃ (r sh K : Nat) (real : Array Value) (t : TypeId) (fr : Nat × Nat), e b = some (r, sh, K) ∧ w.heap[r]? = some (.cells real t fr) ∧ real.size = K ∧ sh + cs.length ≤ K ∧
      (∀ i v, cs[i]? = some v → ∃ v', real[sh + i]? = some v' ∧ VR e v v') ∧ (ro = true → r < B0) ∧ (ro = false → fz = false ∧ B0 ≤ r) ∧ (fz = false → fr.2 ≤ fr.1)
  | .map es clock => ∃ (r : Nat) (es' : Array MapEntry), e b = some (r, 0, 0) ∧ w.heap[r]? = some (.map es' clock) ∧ B0 ≤ r ∧ EL e es es'.toList
  | .loop l => ∃ (r : Nat) (l' : Loop), e b = some (r, 0, 0) ∧ w.heap[r]? = some (.loop l') ∧ B0 ≤ r ∧ LR e l l'
  | .deferred op => ∃ r : Nat, e b = some (r, 0, 0) ∧ w.heap[r]? = some (.deferred (cond op (some []) none)) ∧ B0 ≤ r
  | .iter s pos => ∃ r : Nat, e b = some (r, 0, 0) ∧ w.heap[r]? = some (.stringIter s pos) ∧ B0 ≤ r
  | .dead => True
def wr : CObj → Bool
  | .cells _ ro _ => !ro
  | .dead => false
  | _ => true
structure R (B0 : Nat) (w0 : World) (e : Env) (h : CH) (w : World) : Prop where
  below : Below B0 w0 w
  base : B0 ≤ w0.heap.size
  dom : ∀ b, h.n ≤ b → e b = none
  hdom : ∀ b, h.n ≤ b → h.get b = none
  obj : ∀ b o, h.get b = some o → OR B0 e w b o
  inj : ∀ b b' o o' r x x', h.get b = some o → h.get b' = some o' → wr o = true → wr o' = true → e b = some (r, x) → e b' = some (r, x') → b = b'
section
variable {B0 : Nat} {w0 w w' : World} {e e' : Env} {h : CH}
theorem OR.at_ {b : Nat} {o : CObj} (ho : OR B0 e w b o) (hd : o ≠ .dead) : ∃ r x, e b = some (r, x) ∧ r < w.heap.size ∧ (wr o = true → B0 ≤ r) ∧ (wr o = false → r < B0) := by
  have lt : ∀ {r : Nat} {q : Obj}, w.heap[r]? = some q → r < w.heap.size := fun hq => (Array.getElem?_eq_some_iff.1 hq).1
  cases o with
  | cells cs ro fz =>
    obtain ⟨r, sh, K, real, t, fr, he, hw, _, _, _, h1, h2, _⟩ := ho
    exact ⟨r, _, he, lt hw, fun hh => (h2 (by cases ro <;> simp_all [wr])).2, fun hh => h1 (by cases ro <;> simp_all [wr])⟩
  | map es c => obtain ⟨r, es', he, hw, hb, _⟩ := ho; exact ⟨r, _, he, lt hw, fun _ => hb, fun hh => by simp [wr] at hh⟩
  | loop l => obtain ⟨r, l', he, hw, hb, _⟩ := ho; exact ⟨r, _, he, lt hw, fun _ => hb, fun hh => by simp [wr] at hh⟩
  | deferred op => obtain ⟨r, he, hw, hb⟩ := ho; exact ⟨r, _, he, lt hw, fun _ => hb, fun hh => by simp [wr] at hh⟩
  | iter s p => obtain ⟨r, he, hw, hb⟩ := ho; exact ⟨r, _, he, lt hw, fun _ => hb, fun hh => by simp [wr] at hh⟩
  | dead => exact absurd rfl hd
theorem LR.mono (he : Ext e e') {l l' : Loop} (h : LR e l l') : LR e' l l' := ⟨h.state, h.pending, h.fn, h.params, h.assign, h.body, h.tmps.mono he⟩
theorem OR.mono {b : Nat} {o : CObj} (he : Ext e e') (hw : ∀ r x, e b = some (r, x) → r < w.heap.size → w'.heap[r]? = w.heap[r]?) (ho : OR B0 e w b o) : OR B0 e' w' b o := by
  have lt : ∀ {r : Nat} {q : Obj}, w.heap[r]? = some q → r < w.heap.size := fun hq => (Array.getElem?_eq_some_iff.1 hq).1
  cases o with
  | cells cs ro fz =>
    obtain ⟨r, sh, K, real, t, fr, h1, h2, h3, h4, h5, h6⟩ := ho
    exact ⟨r, sh, K, real, t, fr, he _ _ h1, (hw _ _ h1 (lt h2)).trans h2, h3, h4, fun i v hv => let ⟨v', q, p⟩ := h5 i v hv; ⟨v', q, p.mono he⟩, h6⟩
  | map es c => obtain ⟨r, es', h1, h2, hb, h3⟩ := ho; exact ⟨r, es', he _ _ h1, (hw _ _ h1 (lt h2)).trans h2, hb, h3.mono he⟩
  | loop l => obtain ⟨r, l', h1, h2, hb, h3⟩ := ho; exact ⟨r, l', he _ _ h1, (hw _ _ h1 (lt h2)).trans h2, hb, h3.mono he⟩
  | deferred op => obtain ⟨r, h1, h2, hb⟩ := ho; exact ⟨r, he _ _ h1, (hw _ _ h1 (lt h2)).trans h2, hb⟩
  | iter s p => obtain ⟨r, h1, h2, hb⟩ := ho; exact ⟨r, he _ _ h1, (hw _ _ h1 (lt h2)).trans h2, hb⟩
  | dead => trivial
theorem R.of_heap (hR : R B0 w0 e h w) (hb : Below B0 w w') (hh : ∀ i, i < w.heap.size → w'.heap[i]? = w.heap[i]?) : R B0 w0 e h w' where
  below := hR.below.trans hb
  base := hR.base
  dom := hR.dom
  hdom := hR.hdom
  obj := fun b o ho => (hR.obj b o ho).mono (Ext.refl e) fun r _ _ hr => hh r hr
  inj := hR.inj
theorem R.drew (hR : R B0 w0 e h w) : R B0 w0 e h { w with drawn := w.drawn + 1 } :=
  hR.of_heap ⟨rfl, rfl, rfl, Nat.le_refl _, fun _ _ => rfl⟩ fun _ _ => rfl
theorem R.size (hR : R B0 w0 e h w) : B0 ≤ w.heap.size := Nat.le_trans hR.base hR.below.size
def upd (e : Env) (n : Nat) (x : Nat × Nat × Nat) : Env := fun b => if b = n then some x else e b
theorem upd_same (e : Env) (n : Nat) (x : Nat × Nat × Nat) : upd e n x n = some x := by simp [upd]
theorem upd_ne (e : Env) {n b : Nat} (x : Nat × Nat × Nat) (h : b ≠ n) : upd e n x b = e b := by simp [upd, h]
theorem R.ext (hR : R B0 w0 e h w) (x : Nat × Nat × Nat) : Ext e (upd e h.n x) := by
  intro b y hy
  by_cases hb : b = h.n
  · rw [hb, hR.dom h.n (Nat.le_refl _)] at hy; cases hy
  · rw [upd_ne e x hb]; exact hy
theorem R.push (hR : R B0 w0 e h w) (q : Obj) (o : CObj) (sh K : Nat)
    (hw : w'.heap = w.heap.push q) (h1 : w'.os = w.os) (h2 : w'.tape = w.tape) (h3 : w'.output = w.output)
    (ho : OR B0 (upd e h.n (w.heap.size, sh, K)) w' h.n o) :
    R B0 w0 (upd e h.n (w.heap.size, sh, K)) (h.push o) w' := by
  have hext := hR.ext (w.heap.size, sh, K)
  have hsame : ∀ i, i < w.heap.size → w'.heap[i]? = w.heap[i]? := fun i hi => by rw [hw, Array.getElem?_push, if_neg (by omega)]
  have hsz := hR.size
  refine ⟨hR.below.trans ⟨h1, h2, h3, by rw [hw]; simp, fun k hk => hsame k (by omega)⟩, hR.base, ?_, ?_, ?_, ?_⟩
  · intro b hb
    rw [CH.n_push] at hb
    rw [upd_ne e _ (by omega)]
    exact hR.dom b (by omega)
  · intro b hb
    rw [CH.n_push] at hb
    rw [CH.get_push, if_neg (by omega)]
    exact hR.hdom b (by omega)
  · intro b o' ho'
    rw [CH.get_push] at ho'
    by_cases hb : b = h.n
    · rw [if_pos hb] at ho'
      cases ho'
      rw [hb]; exact ho
    · rw [if_neg hb] at ho'
      exact (hR.obj b o' ho').mono hext fun r _ _ hr => hsame r hr
  · have key : ∀ b o' r x, h.get b = some o' → wr o' = true → upd e h.n (w.heap.size, sh, K) b = some (r, x) → b ≠ h.n → r < w.heap.size ∧ e b = some (r, x) := by
      intro b o' r x hb hwr hr hne
      rw [upd_ne e _ hne] at hr
      obtain ⟨r', x', hr', hlt, _⟩ := (hR.obj b o' hb).at_ (by rintro rfl; simp [wr] at hwr)
      rw [hr] at hr'
      cases hr'
      exact ⟨hlt, hr⟩
    intro b b' o1 o2 r x x' hb hb' hw1 hw2 hr hr'
    rw [CH.get_push] at hb hb'
    by_cases e1 : b = h.n
    · by_cases e2 : b' = h.n
      · rw [e1, e2]
      · rw [if_neg e2] at hb'
        obtain ⟨hlt, _⟩ := key b' o2 r x' hb' hw2 hr' e2
        rw [e1, upd_same] at hr
        cases hr
        omega
    · rw [if_neg e1] at hb
      obtain ⟨hlt, hr1⟩ := key b o1 r x hb hw1 hr e1
      by_cases e2 : b' = h.n
      · rw [e2, upd_same] at hr'
        cases hr'
        omega
      · rw [if_neg e2] at hb'
        obtain ⟨_, hr2⟩ := key b' o2 r x' hb' hw2 hr' e2
        exact hR.inj b b' o1 o2 r x x' hb hb' hw1 hw2 hr1 hr2
theorem R.update (hR : R B0 w0 e h w) {b : Nat} {o o' : CObj} {r : Nat} {x : Nat × Nat} (hb : h.get b = some o) (hwr : wr o = true) (he : e b = some (r, x))
    (hsz : w'.heap.size = w.heap.size) (hsame : ∀ i, i ≠ r → w'.heap[i]? = w.heap[i]?) (h1 : w'.os = w.os) (h2 : w'.tape = w.tape) (h3 : w'.output = w.output)
    (ho : OR B0 e w' b o') : R B0 w0 e (h.put b o') w' := by
  obtain ⟨r', x', hr', hlt, hB, _⟩ := (hR.obj b o hb).at_ (by rintro rfl; simp [wr] at hwr)
  rw [he] at hr'
  cases hr'
  have hB := hB hwr
  refine ⟨hR.below.trans ⟨h1, h2, h3, by omega, fun k hk => hsame k (by omega)⟩, hR.base, hR.dom, ?_, ?_, ?_⟩
  · intro c hc
    rw [CH.n_put] at hc
    rw [CH.get_put]
    by_cases ec : c = b
    · subst ec; rw [hR.hdom c hc] at hb; cases hb
    · rw [if_neg ec]; exact hR.hdom c hc
  · intro c oc hc
    rw [CH.get_put] at hc
    by_cases ec : c = b
    · rw [if_pos ec] at hc
      cases hc
      rw [ec]; exact ho
    · rw [if_neg ec] at hc
      by_cases hd : oc = .dead
      · subst hd; trivial
      · refine (hR.obj c oc hc).mono (Ext.refl e) fun rc xc hrc _ => hsame rc ?_
        rintro rfl
        obtain ⟨r2, x2, hr2, _, _, hlo⟩ := (hR.obj c oc hc).at_ hd
        rw [hrc] at hr2
        cases hr2
        cases hwc : wr oc with
        | true => exact ec (hR.inj c b oc o rc xc x hc hb hwc hwr hrc he)
        | false => have := hlo hwc; omega
  · intro c c' oc oc' rc xc xc' hc hc' hw1 hw2 hr1 hr2
    rw [CH.get_put] at hc hc'
    by_cases e1 : c = b
    · by_cases e2 : c' = b
      · rw [e1, e2]
      · rw [if_neg e2] at hc'
        subst e1
        rw [he] at hr1
        cases hr1
        exact hR.inj c c' o oc' r x xc' hb hc' hwr hw2 he hr2
    · rw [if_neg e1] at hc
      by_cases e2 : c' = b
      · subst e2
        rw [he] at hr2
        cases hr2
        exact hR.inj c c' oc o r xc x hc hb hw1 hwr hr1 he
      · rw [if_neg e2] at hc'
        exact hR.inj c c' oc oc' rc xc xc' hc hc' hw1 hw2 hr1 hr2
theorem R.adopt (hR : R B0 w0 e h w) (o : CObj) (r sh K : Nat) (hfree : ∀ c oc x, h.get c = some oc → wr oc = true → e c ≠ some (r, x))
    (ho : OR B0 (upd e h.n (r, sh, K)) w h.n o) : R B0 w0 (upd e h.n (r, sh, K)) (h.push o) w := by
  have hext := hR.ext (r, sh, K)
  refine ⟨hR.below, hR.base, ?_, ?_, ?_, ?_⟩
  · intro b hb
    rw [CH.n_push] at hb
    rw [upd_ne e _ (by omega)]
    exact hR.dom b (by omega)
  · intro b hb
    rw [CH.n_push] at hb
    rw [CH.get_push, if_neg (by omega)]
    exact hR.hdom b (by omega)
  · intro b o' ho'
    rw [CH.get_push] at ho'
    by_cases hb : b = h.n
    · rw [if_pos hb] at ho'
      cases ho'
      rw [hb]; exact ho
    · rw [if_neg hb] at ho'
      exact (hR.obj b o' ho').mono hext fun _ _ _ _ => rfl
  · intro b b' o1 o2 r1 x x' hb hb' hw1 hw2 hr hr'
    rw [CH.get_push] at hb hb'
    by_cases e1 : b = h.n
    · by_cases e2 : b' = h.n
      · rw [e1, e2]
      · rw [if_neg e2] at hb'
        rw [e1, upd_same] at hr
        rw [upd_ne e _ e2] at hr'
        cases hr
        exact absurd hr' (hfree b' o2 x' hb' hw2)
    · rw [if_neg e1] at hb
      rw [upd_ne e _ e1] at hr
      by_cases e2 : b' = h.n
      · rw [e2, upd_same] at hr'
        cases hr'
        exact absurd hr (hfree b o1 x hb hw1)
      · rw [if_neg e2] at hb'
        rw [upd_ne e _ e2] at hr'
        exact hR.inj b b' o1 o2 r1 x x' hb hb' hw1 hw2 hr hr'
theorem R.move (hR : R B0 w0 e h w) {b : Nat} {o o' : CObj} {r : Nat} {x : Nat × Nat} (sh K : Nat) (hb : h.get b = some o) (hwr : wr o = true) (he : e b = some (r, x))
    (hsz : w'.heap.size = w.heap.size) (hsame : ∀ i, i ≠ r → w'.heap[i]? = w.heap[i]?) (h1 : w'.os = w.os) (h2 : w'.tape = w.tape) (h3 : w'.output = w.output)
    (ho : OR B0 (upd e h.n (r, sh, K)) w' h.n o') : R B0 w0 (upd e h.n (r, sh, K)) ((h.put b .dead).push o') w' := by
  have hR' := hR.update (o' := .dead) hb hwr he hsz hsame h1 h2 h3 trivial
  refine hR'.adopt o' r sh K ?_ ho
  intro c oc y hc hwc hec
  rw [CH.get_put] at hc
  by_cases ec : c = b
  · rw [if_pos ec] at hc
    cases hc
    simp [wr] at hwc
  · rw [if_neg ec] at hc
    exact ec (hR.inj c b oc o r y x hc hb hwc hwr hec he)
end
end Go.Cx
namespace Go.Cx
open Go.RowKit (Below)
structure TabOk (P : Program) (T : Tab) : Prop where
  info : ∀ t i, T.info t = some i → P.info? t = some i
  fn : ∀ f g, T.fn f = some g → P.funcs[f]? = some g ∧ ∀ args w, (callFunc f args).run P w = .ok (.enter f args) w
  ext : ∀ f s, T.ext f = some s → ∀ args w, (callFunc f args).run P w = ((s args).run P w).andThen fun v w => .ok (.value v) w
  plain : ∀ t, T.plain t = true → P.eqGuardType P.depth t = false ∧ P.stoodInHeld t = false
  follows : P.follows .mixedOrders = true
section
variable {P : Program} {T : Tab} {B0 : Nat} {w0 w : World} {e : Env} {h : CH}
theorem und_some (hT : TabOk P T) {t : TypeId} {d : TypeDesc} (hd : T.und t = some d) : P.underlying t = some d := by
  obtain ⟨i, hi, h1⟩ := obind hd
  have hp := hT.info t i hi
  unfold Program.underlying
  rw [hp]
  obtain ⟨desc, _, _, _, _, _, _, _, _, _⟩ := i
  unfold Tab.und1 at h1
  split at h1
  · rename_i s u heq
    obtain ⟨j, hj, rfl⟩ := omap h1
    simp only at heq
    subst heq
    simp [hT.info u j hj]
  · rename_i hne
    cases h1
    simp only at hne ⊢
    cases desc <;> first | rfl | (exact absurd rfl (hne _ _))
theorem run_und (hT : TabOk P T) {t : TypeId} {d : TypeDesc} (hd : T.und t = some d) (w : World) : (underlying t).run P w = .ok d w := by
  simp [underlying, und_some hT hd]
theorem run_info (hT : TabOk P T) {t : TypeId} {i : TypeInfo} (hi : T.info t = some i) (w : World) : (typeInfo t).run P w = .ok i w := by
  simp [typeInfo, hT.info t i hi]
theorem run_size (hT : TabOk P T) {t : TypeId} {s : Nat} (hs : T.size t = some s) (w : World) : (sizeOf t).run P w = .ok s w := by
  obtain ⟨i, hi, rfl⟩ := omap hs
  simp [sizeOf, run_info hT hi]
theorem run_isAgg (hT : TabOk P T) {t : TypeId} {d : TypeDesc} (hd : T.und t = some d) (w : World) : (isAgg t).run P w = .ok (isAggD d) w := by
  simp only [isAgg, Sem.run_bind, run_und hT hd, Result.andThen_ok]
  cases d <;> rfl
theorem und_of_info {t : TypeId} {i : TypeInfo} {d : TypeDesc} (hi : T.info t = some i) (hd : T.und1 i.desc = some d) : T.und t = some d := by
  simp [Tab.und, hi, hd]
theorem run_zero (hT : TabOk P T) {t : TypeId} {i : TypeInfo} {z : Value} (hi : T.info t = some i) (hz : i.zero = some z) (w : World) : (zeroValue t).run P w = .ok z w := by
  simp [zeroValue, run_info hT hi, hz]
theorem add_none (r o n : Nat) : (⟨r, o, none⟩ : Addr).add n = ⟨r, o + n, none⟩ := by
  unfold Addr.add
  split
  · rename_i h; subst h; rfl
  · rfl
theorem cell_of {r : Nat} {real : Array Value} {t : TypeId} {fr : Nat × Nat} (hw : w.heap[r]? = some (.cells real t fr)) (o : Nat) : w.cell? ⟨r, o, none⟩ = real[o]? := by
  simp [World.cell?, hw]
theorem run_loadC (P : Program) (w : World) (a : Addr) : ∀ (l : List Value) (i : Nat) (acc : Array Value), (∀ j v, l[j]? = some v → w.cell? (a.add (i + j)) = some v) →
    (loadCellsFrom a i l.length acc).run P w = .ok (acc ++ l.toArray) w
  | [], i, acc, _ => by simp [loadCellsFrom]
  | v :: l, i, acc, hc => by
    have h0 := hc 0 v rfl
    simp only [Nat.add_zero] at h0
    have ih := run_loadC P w a l (i + 1) (acc.push v) (fun j u hu => by have := hc (j + 1) u (by simpa using hu); rwa [show i + 1 + j = i + (j + 1) by omega])
    simp only [List.length_cons, loadCellsFrom, Sem.run_bind, run_load, h0, Result.andThen_ok, ih]
    congr 1
    simp
theorem row_reads (hR : R B0 w0 e h w) {b : Nat} {cs : List Value} (hb : h.row b = some cs) {r sh K : Nat} (he : e b = some (r, sh, K)) :
    ∃ (real : Array Value) (t : TypeId) (fr : Nat × Nat), w.heap[r]? = some (.cells real t fr) ∧ real.size = K ∧ sh + cs.length ≤ K ∧ ∀ i v, cs[i]? = some v → ∃ v', real[sh + i]? = some v' ∧ VR e v v' := by
  obtain ⟨ro, fz, hg⟩ := CH.row_eq hb
  obtain ⟨r', sh', K', real, t, fr, h1, h2, h3, h4, h5, _⟩ := hR.obj b _ hg
  rw [he] at h1
  cases h1
  exact ⟨real, t, fr, h2, h3, h4, h5⟩
theorem row_sub (hR : R B0 w0 e h w) {b : Nat} {cs l : List Value} (hb : h.row b = some cs) {r sh K : Nat} (he : e b = some (r, sh, K)) {o n : Nat} (hl : lsub cs o n = some l) :
    ∃ l', VL e l l' ∧ l.length = n ∧ ∀ j v, l'[j]? = some v → w.cell? ⟨r, sh + o + j, none⟩ = some v := by
  obtain ⟨real, t, fr, h2, h3, h4, h5⟩ := row_reads hR hb he
  obtain ⟨hlen, rfl⟩ := lsub_some cs o n l hl
  refine ⟨(real.toList.drop (sh + o)).take n, ?_, by simp; omega, ?_⟩
  · refine VL.of_get (by simp [h3]; omega) fun i v v' hv hv' => ?_
    rw [List.getElem?_take] at hv hv'
    split at hv
    · rename_i hi
      rw [if_pos hi] at hv'
      rw [List.getElem?_drop] at hv hv'
      obtain ⟨u, hu, hvr⟩ := h5 (o + i) v hv
      rw [Array.getElem?_toList, show sh + o + i = sh + (o + i) by omega, hu] at hv'
      cases hv'
      exact hvr
    · cases hv
  · intro j v hv
    rw [cell_of h2]
    rw [List.getElem?_take] at hv
    split at hv
    · rw [List.getElem?_drop, Array.getElem?_toList] at hv; exact hv
    · cases hv
theorem ptrOf_some {x : Value} {p : Nat × Nat} (hp : ptrOf x = some p) : x = .pointer (some ⟨p.1, p.2, none⟩) := by
  unfold ptrOf at hp
  split at hp
  · cases hp; rfl
  · cases hp
theorem cload_sound (hT : TabOk P T) (hR : R B0 w0 e h w) {t : TypeId} {x x' v : Value} (hx : VR e x x') (hv : cload T h t x = some v) :
    ∃ v', (Instr.loadAt t x').run P w = .ok v' w ∧ VR e v v' := by
  obtain ⟨p, hp, hv1⟩ := obind hv
  obtain ⟨cs, hcs, hv2⟩ := obind hv1
  rw [ptrOf_some hp] at hx
  obtain ⟨r, sh, K, he, rfl⟩ := hx.ptrI
  clear hv hv1
  obtain ⟨i, hi, hv⟩ := obind hv2
  obtain ⟨d, hd, hv⟩ := obind hv
  have hu := und_of_info hi hd
  rw [cond_eq] at hv
  by_cases ha : isAggD d = true
  · rw [if_pos ha] at hv
    obtain ⟨l, hl, rfl⟩ := omap hv
    obtain ⟨l', hvl, hlen, hc⟩ := row_sub hR hcs he hl
    refine ⟨.agg l'.toArray, ?_, .agg (by simpa using hvl)⟩
    have hs : T.size t = some i.size := by simp [Tab.size, hi]
    have hrun := run_loadC P w ⟨r, sh + p.2, none⟩ l' 0 #[] (fun j u hu => by rw [add_none]; simpa using hc j u hu)
    rw [← hvl.length, hlen] at hrun
    simp [Instr.loadAt, Instr.sureAddr, loadVar, run_isAgg hT hu, ha, run_size hT hs, loadCells, hrun]
  · rw [if_neg ha] at hv
    obtain ⟨real, tt, fr, h2, h3, h4, h5⟩ := row_reads hR hcs he
    rw [lget_eq] at hv
    obtain ⟨v', hv', hvr⟩ := h5 p.2 v hv
    refine ⟨v', ?_, hvr⟩
    have hcell := cell_of h2 (sh + p.2)
    rw [hv'] at hcell
    simp [Instr.loadAt, Instr.sureAddr, loadVar, run_isAgg hT hu, ha, hcell]
theorem cpart_sound (hT : TabOk P T) {t : TypeId} {cs : List Value} {cs' : Array Value} {off : Nat} {v : Value} (hc : VL e cs cs'.toList) (hv : cpart T t cs off = some v) (w : World) :
    ∃ v', (part t cs' off).run P w = .ok v' w ∧ VR e v v' := by
  obtain ⟨i, hi, hv⟩ := obind hv
  obtain ⟨d, hd, hv⟩ := obind hv
  have hu := und_of_info hi hd
  rw [cond_eq] at hv
  by_cases ha : isAggD d = true
  · rw [if_pos ha] at hv
    obtain ⟨l, hl, rfl⟩ := omap hv
    obtain ⟨hlen, rfl⟩ := lsub_some _ _ _ _ hl
    have hs : T.size t = some i.size := by simp [Tab.size, hi]
    refine ⟨.agg (cs'.extract off (off + i.size)), by simp [part, run_isAgg hT hu, ha, run_size hT hs], .agg ?_⟩
    simp only [Array.toList_extract, List.extract_eq_take_drop]
    rw [show off + i.size - off = i.size by omega]
    simpa using (hc.drop off).take i.size
  · rw [if_neg ha] at hv
    rw [lget_eq] at hv
    obtain ⟨v', hv', hvr⟩ := hc.get off v hv
    rw [Array.getElem?_toList] at hv'
    exact ⟨v', by simp [part, run_isAgg hT hu, ha, hv'], hvr⟩
theorem toList_data (s : ByteArray) : s.toList = s.data.toList := ByteArray.toList_eq s
theorem equalIn_int {P : Program} {t : TypeId} {k : IntKind} (hu : P.underlying t = some (.int k)) (d : Nat) (j : IntKind) (a b : Int) (w : World) :
    (Op.equalIn (d + 1) t (.int j a) (.int j b)).run P w = .ok (a == b) w := by
  simp [Op.equalIn, underlying, hu]
theorem equalIn_bool {P : Program} {t : TypeId} (hu : P.underlying t = some .bool) (d : Nat) (a b : Bool) (w : World) :
    (Op.equalIn (d + 1) t (.bool a) (.bool b)).run P w = .ok (a == b) w := by
  simp [Op.equalIn, underlying, hu]
theorem equalIn_string {P : Program} {t : TypeId} (hu : P.underlying t = some .string) (d : Nat) (a b : ByteArray) (w : World) :
    (Op.equalIn (d + 1) t (.string a) (.string b)).run P w = .ok (a == b) w := by
  simp [Op.equalIn, underlying, hu]
theorem bytes_beq (a b : ByteArray) : (a == b) = bytesBeq a.data.toList b.data.toList := by
  have h1 : (a == b) = (a.data == b.data) := by cases a; cases b; rfl
  rw [h1, Bool.eq_iff_iff, bytesBeq_iff, beq_iff_eq]
  constructor
  · intro h; rw [h]
  · intro h; exact Array.toList_inj.1 h
theorem ceq1_sound {P : Program} {t : TypeId} {k : TypeDesc} (hu : P.underlying t = some k) {x y x' y' : Value} {b : Bool} (hx : VR e x x') (hy : VR e y y') (h1 : ceq1 k x y = some b) (d : Nat) (w : World) :
    (Op.equalIn (d + 1) t x' y').run P w = .ok b w := by
  unfold ceq1 at h1
  split at h1
  · rw [hx.bool, hy.bool]; cases h1; exact equalIn_bool hu d _ _ w
  · rename_i k0 j a j' c
    obtain ⟨hj, h2⟩ := ocond h1
    have hj : j = j' := of_decide_eq_true hj
    clear h1
    cases h2
    rw [hx.int, hy.int, hj]; exact equalIn_int hu d _ _ _ w
  · rw [hx.string, hy.string]; cases h1; rw [equalIn_string hu d, bytes_beq]
  · cases h1
theorem unfz_some {o : Option CObj} (ho : unfz o = true) : ∃ cs, o = some (.cells cs false false) := by
  unfold unfz at ho
  split at ho
  · exact ⟨_, rfl⟩
  · cases ho
theorem row_free (hR : R B0 w0 e h w) {b : Nat} {cs : List Value} (hb : h.get b = some (.cells cs false false)) {r sh K : Nat} (he : e b = some (r, sh, K)) :
    ∃ (real : Array Value) (t : TypeId) (fr : Nat × Nat), w.heap[r]? = some (.cells real t fr) ∧ fr.2 ≤ fr.1 := by
  obtain ⟨r', sh', K', real, t, fr, h1, h2, _, _, _, _, _, h7⟩ := hR.obj b _ hb
  rw [he] at h1
  cases h1
  exact ⟨real, t, fr, h2, h7 rfl⟩
theorem free_at {r : Nat} {real : Array Value} {t : TypeId} {fr : Nat × Nat} (hw : w.heap[r]? = some (.cells real t fr)) (hf : fr.2 ≤ fr.1) (o : Nat) (s : Option Nat) : w.frozen? ⟨r, o, s⟩ = false := by
  obtain ⟨lo, hi⟩ := fr
  simp only [World.frozen?, hw]
  simp only at hf
  rw [Bool.and_eq_false_iff]
  by_cases hl : lo ≤ o
  · right; simp; omega
  · left; simp; omega
theorem shape_at {r : Nat} {real : Array Value} {t : TypeId} {fr : Nat × Nat} (hw : w.heap[r]? = some (.cells real t fr)) : w.shape? r = some (t, real.size) := by
  simp [World.shape?, hw]
theorem samePtr (hR : R B0 w0 e h w) {a b : Nat × Nat} {q : Bool} {ra sa Ka rb sb Kb : Nat} (ha : e a.1 = some (ra, sa, Ka)) (hb : e b.1 = some (rb, sb, Kb)) (hc : cptr2 h a b = some q) :
    (sameAddr ⟨ra, sa + a.2, none⟩ ⟨rb, sb + b.2, none⟩).run P w = .ok q w := by
  unfold cptr2 at hc
  rw [cond_eq] at hc
  by_cases hab : Nat.beq a.1 b.1 = true
  · rw [if_pos hab] at hc
    have hab := (nbeq _ _).1 hab
    rw [← hab, ha] at hb
    cases hb
    cases hc
    have : ((⟨ra, sa + a.2, none⟩ : Addr) == ⟨ra, sa + b.2, none⟩) = Nat.beq a.2 b.2 := by
      rw [Bool.eq_iff_iff, nbeq, beq_iff_eq]
      constructor
      · intro h; injection h with _ h; omega
      · intro h; rw [h]
    simp [sameAddr, this]
  · rw [if_neg hab] at hc
    obtain ⟨h1, h2⟩ := ocond hc
    cases h2
    rw [Bool.and_eq_true] at h1
    obtain ⟨c1, g1⟩ := unfz_some h1.1
    obtain ⟨c2, g2⟩ := unfz_some h1.2
    have hne : ra ≠ rb := by
      rintro rfl
      exact hab ((nbeq _ _).2 (hR.inj a.1 b.1 _ _ ra _ _ g1 g2 rfl rfl ha hb))
    obtain ⟨real1, t1, fr1, hw1, hf1⟩ := row_free hR g1 ha
    obtain ⟨real2, t2, fr2, hw2, hf2⟩ := row_free hR g2 hb
    have e1 := shape_at hw1
    have e2 := shape_at hw2
    simp [sameAddr, hne, noView, viewAt, mayBeOne, stringish, e1, e2, free_at hw1 hf1, free_at hw2 hf2]
theorem cptr_sound (hT : TabOk P T) (hR : R B0 w0 e h w) {t el : TypeId} (hu : P.underlying t = some (.pointer el)) (hp : posSize T el = true) {x y x' y' : Value} {b : Bool} (hx : VR e x x') (hy : VR e y y') (hc : cptr h x y = some b) (d : Nat) :
    (Op.equalIn (d + 1) t x' y').run P w = .ok b w := by
  have hsz : ∃ s, T.size el = some (s + 1) := by
    unfold posSize at hp
    split at hp
    · exact ⟨_, ‹_›⟩
    · cases hp
  obtain ⟨s, hs⟩ := hsz
  have hun : ∀ W : World, (underlying t).run P W = .ok (.pointer el) W := fun W => by simp [underlying, hu]
  unfold cptr at hc
  split at hc
  · rename_i q
    cases hc
    rw [hx.pnil]
    have : ∃ q', y' = .pointer q' ∧ q'.isNone = q.isNone := by
      cases hy with
      | flat hf => exact ⟨q, rfl, rfl⟩
      | ptr hq => exact ⟨_, rfl, rfl⟩
    obtain ⟨q', rfl, hq⟩ := this
    rw [← hq]
    simp [Op.equalIn, hun]
  · rename_i q
    cases hc
    rw [hy.pnil]
    have : ∃ q', x' = .pointer (some q') := by
      cases hx with
      | flat hf => simp [flat] at hf
      | ptr hq => exact ⟨_, rfl⟩
    obtain ⟨q', rfl⟩ := this
    simp [Op.equalIn, hun]
  · obtain ⟨a, ha, hc1⟩ := obind hc
    obtain ⟨c, hc0, hc2⟩ := obind hc1
    rw [ptrOf_some ha] at hx
    rw [ptrOf_some hc0] at hy
    obtain ⟨ra, sa, Ka, hea, rfl⟩ := hx.ptrI
    obtain ⟨rb, sb, Kb, heb, rfl⟩ := hy.ptrI
    simp [Op.equalIn, hun, run_size hT hs, samePtr hR hea heb hc2]
theorem isAggD_ceq1 {k : TypeDesc} {x y : Value} {b : Bool} (h1 : ceq1 k x y = some b) : isAggD k = false := by
  unfold ceq1 at h1
  split at h1 <;> first | rfl | cases h1
theorem ceqF_sound (hT : TabOk P T) (hR : R B0 w0 e h w) {t : TypeId} {k : TypeDesc} (hu : P.underlying t = some k) {x y x' y' : Value} {b : Bool} (hx : VR e x x') (hy : VR e y y') (hc : ceqF T h k x y = some b) (d : Nat) :
    isAggD k = false ∧ (Op.equalIn (d + 1) t x' y').run P w = .ok b w := by
  unfold ceqF at hc
  split at hc
  · obtain ⟨h1, h2⟩ := ocond hc
    exact ⟨rfl, cptr_sound hT hR hu h1 hx hy h2 d⟩
  · exact ⟨isAggD_ceq1 hc, ceq1_sound hu hx hy hc d w⟩
theorem run_part1 (hT : TabOk P T) {t : TypeId} {d : TypeDesc} (hd : T.und t = some d) (ha : isAggD d = false) {cs : Array Value} {off : Nat} {v : Value} (hv : cs[off]? = some v) (w : World) : (part t cs off).run P w = .ok v w := by
  simp [part, run_isAgg hT hd, ha, hv]
theorem cfields_sound (hT : TabOk P T) (hR : R B0 w0 e h w) {xs ys : List Value} {xs' ys' : Array Value} (hx : VL e xs xs'.toList) (hy : VL e ys ys'.toList) (d : Nat) : ∀ (fs : List Field) (b : Bool), cfields T h fs xs ys = some b →
    (Op.eqFields (d + 1) xs' ys' fs).run P w = .ok b w := by
  intro fs
  induction fs with
  | nil => intro b hb; cases hb; simp [Op.eqFields]
  | cons f fs ih =>
    intro b hb
    unfold cfields at hb
    obtain ⟨hn, h1⟩ := ocond' hb
    obtain ⟨k, hk, h2⟩ := obind h1
    obtain ⟨x, hx1, h3⟩ := obind h2
    obtain ⟨y, hy1, h4⟩ := obind h3
    obtain ⟨r, hr, h5⟩ := obind h4
    rw [lget_eq] at hx1 hy1
    obtain ⟨x', hx2, hxr⟩ := hx.get _ _ hx1
    obtain ⟨y', hy2, hyr⟩ := hy.get _ _ hy1
    rw [Array.getElem?_toList] at hx2 hy2
    obtain ⟨ha, heq⟩ := ceqF_sound hT hR (und_some hT hk) hxr hyr hr d
    have hn : f.name ≠ "_" := of_decide_eq_false hn
    simp only [Op.eqFields, hn, ne_eq, not_false_eq_true, if_true, Sem.run_bind, run_part1 hT hk ha hx2, run_part1 hT hk ha hy2, heq, Result.andThen_ok, Sem.run_ite]
    cases r with
    | true => simpa using ih b h5
    | false => cases h5; simp
theorem aggOf_some {x : Value} {l : List Value} (hx : aggOf x = some l) : ∃ a, x = .agg a ∧ l = a.toList := by
  unfold aggOf at hx
  split at hx
  · cases hx; exact ⟨_, rfl, rfl⟩
  · cases hx
theorem ceqSlice_sound {t : TypeId} {el : TypeId} (hu : P.underlying t = some (.slice el)) {x y x' y' : Value} {b : Bool} (hx : VR e x x') (hy : VR e y y') (hc1 : ceqSlice x y = some b) (d : Nat) (w : World) :
    (Op.equalIn (d + 1) t x' y').run P w = .ok b w := by
  have hun : ∀ W : World, (underlying t).run P W = .ok (.slice el) W := fun W => by simp [underlying, hu]
  unfold ceqSlice at hc1
  split at hc1
  · rename_i l c q l2 c2
    cases hc1
    rw [hx.snil]
    have : ∃ q' l' c', y' = .slice q' l' c' ∧ q'.isNone = q.isNone := by
      cases hy with
      | flat hf => exact ⟨q, _, _, rfl, rfl⟩
      | slice h1 h2 => exact ⟨_, _, _, rfl, rfl⟩
      | sliceU h1 h2 h3 => exact ⟨_, _, _, rfl, rfl⟩
      | sliceE h1 h2 => exact ⟨_, _, _, rfl, rfl⟩
    obtain ⟨q', l', c', rfl, hq⟩ := this
    rw [← hq]
    simp [Op.equalIn, hun]
  · rename_i q _ _ _ _ hno
    cases hc1
    rw [hy.snil]
    have : ∃ q' l' c', x' = .slice (some q') l' c' := by
      cases q with
      | none => exact (hno rfl).elim
      | some q => 
        cases hx with
        | flat hf => simp [flat] at hf
        | slice h1 h2 => exact ⟨_, _, _, rfl⟩
        | sliceU h1 h2 h3 => exact ⟨_, _, _, rfl⟩
        | sliceE h1 h2 => exact ⟨_, _, _, rfl⟩
    obtain ⟨q', l', c', rfl⟩ := this
    simp [Op.equalIn, hun]
  · cases hc1
theorem ceqMap_sound {t : TypeId} {k1 el : TypeId} (hu : P.underlying t = some (.map k1 el)) {x y x' y' : Value} {b : Bool} (hx : VR e x x') (hy : VR e y y') (hc1 : ceqMap x y = some b) (d : Nat) (w : World) :
    (Op.equalIn (d + 1) t x' y').run P w = .ok b w := by
  have hun : ∀ W : World, (underlying t).run P W = .ok (.map k1 el) W := fun W => by simp [underlying, hu]
  unfold ceqMap at hc1
  split at hc1
  · rename_i q
    cases hc1
    rw [hx.mnil]
    have : ∃ q', y' = .map q' ∧ q'.isNone = q.isNone := by
      cases hy with
      | flat hf => exact ⟨q, rfl, rfl⟩
      | map h1 => exact ⟨_, rfl, rfl⟩
    obtain ⟨q', rfl, hq⟩ := this
    rw [← hq]
    simp [Op.equalIn, hun]
  · rename_i q hno
    cases hc1
    rw [hy.mnil]
    have : ∃ q', x' = .map (some q') := by
      cases q with
      | none => exact (hno rfl).elim
      | some q =>
        obtain ⟨_, _, _, _, rfl⟩ := hx.mapI
        exact ⟨_, rfl⟩
    obtain ⟨q', rfl⟩ := this
    simp [Op.equalIn, hun]
  · cases hc1
theorem ceqIface_sound {t : TypeId} {ms : Array (String × TypeId)} (hu : P.underlying t = some (.interface ms)) {x y x' y' : Value} {b : Bool} (hx : VR e x x') (hy : VR e y y') (hc1 : ceqIface x y = some b) (d : Nat) (w : World) :
    (Op.equalIn (d + 1) t x' y').run P w = .ok b w := by
  have hun : ∀ W : World, (underlying t).run P W = .ok (.interface ms) W := fun W => by simp [underlying, hu]
  unfold ceqIface at hc1
  split at hc1
  · cases hc1
    rw [hx.inil]
    obtain ⟨y2, rfl, _⟩ := hy.ifaceI
    simp [Op.equalIn, hun]
  · cases hc1
    rw [hy.inil]
    obtain ⟨y2, rfl, _⟩ := hx.ifaceI
    simp [Op.equalIn, hun]
  · cases hc1
theorem VR.funcE {f : Fn} {a b : Array Value} {v : Value} (hv : VR e (.func f a b) v) : ∃ f' a' b', v = .func f' a' b' := by
  cases hv with
  | flat hf => simp [Cx.flat] at hf
  | func h1 h2 => exact ⟨_, _, _, rfl⟩
  | yield h1 => exact ⟨_, _, _, rfl⟩
theorem ceqFunc_sound {t : TypeId} {ps rs : Array TypeId} {vd : Bool} (hu : P.underlying t = some (.func ps rs vd)) {x y x' y' : Value} {b : Bool} (hx : VR e x x') (hy : VR e y y') (hc1 : ceqFunc x y = some b) (d : Nat) (w : World) :
    (Op.equalIn (d + 1) t x' y').run P w = .ok b w := by
  have hun : ∀ W : World, (underlying t).run P W = .ok (.func ps rs vd) W := fun W => by simp [underlying, hu]
  unfold ceqFunc at hc1
  split at hc1
  · cases hc1
    rw [hx.fnil, hy.fnil]
    simp [Op.equalIn, hun]
  · cases hc1
    rw [hx.fnil]
    obtain ⟨f', a', b', rfl⟩ := hy.funcE
    simp [Op.equalIn, hun]
  · cases hc1
    rw [hy.fnil]
    obtain ⟨f', a', b', rfl⟩ := hx.funcE
    simp [Op.equalIn, hun]
  · cases hc1
theorem ceq_sound (hT : TabOk P T) (hR : R B0 w0 e h w) {t : TypeId} {x y x' y' : Value} {b : Bool} (hx : VR e x x') (hy : VR e y y') (hc : ceq T h t x y = some b) (d : Nat) :
    (Op.equalIn (d + 2) t x' y').run P w = .ok b w := by
  obtain ⟨k, hk, hc1⟩ := obind hc
  have hu := und_some hT hk
  clear hc
  unfold ceqD at hc1
  split at hc1
  · rename_i fs
    obtain ⟨hp, h1⟩ := ocond hc1
    obtain ⟨xs, hxs, h2⟩ := obind h1
    obtain ⟨ys, hys, h3⟩ := obind h2
    obtain ⟨a1, rfl, rfl⟩ := aggOf_some hxs
    obtain ⟨a2, rfl, rfl⟩ := aggOf_some hys
    obtain ⟨b1, rfl, hb1⟩ := hx.aggI
    obtain ⟨b2, rfl, hb2⟩ := hy.aggI
    have hf : P.fieldsOf t = fs := by simp [Program.fieldsOf, hu]
    rw [run_equalIn_struct w (d + 1) t b1 b2 (by rw [hf]; exact hu) (hT.plain t hp).2, hf]
    exact cfields_sound hT hR hb1 hb2 d fs.toList b h3
  · obtain ⟨hp, h1⟩ := ocond hc1
    exact cptr_sound hT hR hu hp hx hy h1 (d + 1)
  · exact ceqSlice_sound hu hx hy hc1 (d + 1) w
  · exact ceqMap_sound hu hx hy hc1 (d + 1) w
  · exact ceqIface_sound hu hx hy hc1 (d + 1) w
  · exact ceqFunc_sound hu hx hy hc1 (d + 1) w
  · exact ceq1_sound hu hx hy hc1 (d + 1) w
end
end Go.Cx
set_option linter.unusedSimpArgs false
set_option linter.unusedVariables false
namespace Go.Cx
open Go.RowKit (Below)
section
variable {P : Program} {T : Tab} {B0 : Nat} {w0 w : World} {e : Env} {h : CH}
theorem pureV_some {s : Sem Value} {v : Value} (hs : pureV s = some v) : s = .pure v ∧ scal v = true := by
  unfold pureV at hs
  split at hs
  · obtain ⟨h1, h2⟩ := ocond hs
    cases h2
    exact ⟨rfl, h1⟩
  · cases hs
theorem scalR {v : Value} (hv : scal v = true) : VR e v v := by
  cases v <;> first | exact .flat rfl | (simp [scal] at hv)
theorem scalI {v v' : Value} (hv : scal v = true) (hr : VR e v v') : v' = v := by
  cases v <;> first | (simp [scal] at hv; done) | (cases hr; rfl)
theorem run_eqGuard {t : TypeId} {xo yo : Operand} {x y : Value} (op : BinOp) (h1 : ∀ a b, x = .agg a → y = .agg b → P.eqGuardType P.depth t = false) (h2 : x = .nilIface → y = .nilIface → (isConstO xo || isConstO yo) = true) (w : World) :
    (eqGuard op t xo yo x y).run P w = .ok () w := by
  cases x with
  | nilIface =>
    cases y with
    | nilIface =>
      have h3 := h2 rfl rfl
      cases op <;> first | rfl | (cases xo <;> cases yo <;> first | rfl | (simp [isConstO] at h3; done))
    | _ => cases op <;> rfl
  | agg a =>
    cases y with
    | agg b =>
      have h3 := h1 a b rfl rfl
      cases op <;> first | rfl | (simp [eqGuard, h3]; done)
    | _ => cases op <;> rfl
  | _ => cases op <;> rfl
theorem binOp_eql (t : TypeId) {x y : Value} (h1 : ∀ k n, x ≠ .int k n) (h2 : ∀ k n, x ≠ .float k n) (h3 : ∀ k a b, x ≠ .complex k a b) (h4 : ∀ s, x ≠ .string s) :
    binOp .eql t x y = (do pure (.bool (← Op.equal t x y))) := by
  cases x <;> first | exact absurd rfl (h1 _ _) | exact absurd rfl (h2 _ _) | exact absurd rfl (h3 _ _ _) | exact absurd rfl (h4 _) | rfl
theorem binOp_neq (t : TypeId) {x y : Value} (h1 : ∀ k n, x ≠ .int k n) (h2 : ∀ k n, x ≠ .float k n) (h3 : ∀ k a b, x ≠ .complex k a b) (h4 : ∀ s, x ≠ .string s) :
    binOp .neq t x y = (do pure (.bool (!(← Op.equal t x y)))) := by
  cases x <;> first | exact absurd rfl (h1 _ _) | exact absurd rfl (h2 _ _) | exact absurd rfl (h3 _ _ _) | exact absurd rfl (h4 _) | rfl
theorem cint_sound {op : BinOp} {k : IntKind} {a b : Int} {v : Value} (hv : cint op k a k b = some v) (t : TypeId) : binOp op t (.int k a) (.int k b) = .pure v ∧ scal v = true := by
  cases op
  case add => cases hv; exact ⟨by simp [binOp, Op.intArith]; rfl, rfl⟩
  case sub => cases hv; exact ⟨by simp [binOp, Op.intArith]; rfl, rfl⟩
  case mul => cases hv; exact ⟨by simp [binOp, Op.intArith]; rfl, rfl⟩
  case quo =>
    obtain ⟨h0, h1⟩ := ocond' hv
    obtain ⟨h2, h3⟩ := pureV_some h1
    exact ⟨by simp [binOp]; exact h2, h3⟩
  case rem =>
    obtain ⟨h0, h1⟩ := ocond' hv
    obtain ⟨h2, h3⟩ := pureV_some h1
    exact ⟨by simp [binOp]; exact h2, h3⟩
  case and =>
    have hv' : pureV (Op.intBits .and k a b) = some v := hv
    obtain ⟨h2, h3⟩ := pureV_some hv'
    exact ⟨by simp [binOp]; exact h2, h3⟩
  case or =>
    have hv' : pureV (Op.intBits .or k a b) = some v := hv
    obtain ⟨h2, h3⟩ := pureV_some hv'
    exact ⟨by simp [binOp]; exact h2, h3⟩
  case xor =>
    have hv' : pureV (Op.intBits .xor k a b) = some v := hv
    obtain ⟨h2, h3⟩ := pureV_some hv'
    exact ⟨by simp [binOp]; exact h2, h3⟩
  case andNot =>
    have hv' : pureV (Op.intBits .andNot k a b) = some v := hv
    obtain ⟨h2, h3⟩ := pureV_some hv'
    exact ⟨by simp [binOp]; exact h2, h3⟩
  case shl =>
    have hv' : pureV (Op.shift .shl k a k b) = some v := hv
    obtain ⟨h2, h3⟩ := pureV_some hv'
    exact ⟨h2, h3⟩
  case shr =>
    have hv' : pureV (Op.shift .shr k a k b) = some v := hv
    obtain ⟨h2, h3⟩ := pureV_some hv'
    exact ⟨h2, h3⟩
  case eql => cases hv; exact ⟨by simp [binOp, Op.intCmp]; rfl, rfl⟩
  case neq => cases hv; exact ⟨by simp [binOp, Op.intCmp, bne]; rfl, rfl⟩
  case lss => cases hv; exact ⟨by simp [binOp, Op.intCmp]; rfl, rfl⟩
  case leq => cases hv; exact ⟨by simp [binOp, Op.intCmp]; rfl, rfl⟩
  case gtr => cases hv; exact ⟨by simp [binOp, Op.intCmp]; rfl, rfl⟩
  case geq => cases hv; exact ⟨by simp [binOp, Op.intCmp]; rfl, rfl⟩
theorem app_data (a b : ByteArray) : (⟨(a.data.toList ++ b.data.toList).toArray⟩ : ByteArray) = a ++ b := by
  have : (a ++ b).data = a.data ++ b.data := ByteArray.data_append
  cases h : (a ++ b) with
  | mk d =>
    rw [h] at this
    simp only at this
    subst this
    congr 1
    simp
theorem cstr_sound {op : BinOp} {a b : ByteArray} {v : Value} (hv : cstr op a.data.toList b.data.toList = some v) (t : TypeId) (w : World) : (binOp op t (.string a) (.string b)).run P w = .ok v w ∧ scal v = true := by
  cases op <;> first | (simp only [cstr] at hv; cases hv; done) | skip
  case add =>
    obtain ⟨h0, h1⟩ := ocond hv
    cases h1
    have h0 := (nble _ _).1 h0
    have hs : a.data.toList.length = a.size ∧ b.data.toList.length = b.size := ⟨Array.length_toList, Array.length_toList⟩
    refine ⟨?_, rfl⟩
    rw [app_data]
    have hb : binOp .add t (.string a) (.string b) = if ((a.size + b.size : Nat) : Int) > IntKind.i64.max then unsupported (.resourceLimit "string concatenation: a sum of the lengths that is no int") else pure (.string (a ++ b)) := rfl
    rw [hb, if_neg]
    · rfl
    · have : IntKind.i64.max = 9223372036854775807 := rfl
      rw [this]
      omega
  case eql =>
    cases hv
    have hb : binOp .eql t (.string a) (.string b) = pure (.bool (a.toList == b.toList)) := rfl
    exact ⟨by rw [hb, toList_data, toList_data, bytesBeq_eq]; rfl, rfl⟩
  case neq =>
    cases hv
    have hb : binOp .neq t (.string a) (.string b) = pure (.bool (!(a.toList == b.toList))) := rfl
    exact ⟨by rw [hb, toList_data, toList_data, bytesBeq_eq]; rfl, rfl⟩
theorem ceq1_float (d : TypeDesc) (k : FloatKind) (n : Nat) (y : Value) : ceq1 d (.float k n) y = none := by cases d <;> rfl
theorem ceq1_complex (d : TypeDesc) (k : FloatKind) (n m : Nat) (y : Value) : ceq1 d (.complex k n m) y = none := by cases d <;> rfl
theorem ceq1_agg (d : TypeDesc) (a : Array Value) (y : Value) : ceq1 d (.agg a) y = none := by cases d <;> rfl
theorem ceqOp_sound (hT : TabOk P T) (hR : R B0 w0 e h w) {op : BinOp} {t : TypeId} {xo yo : Operand} {x y x' y' v : Value} (hx : VR e x x') (hy : VR e y y') (hv : ceqOp op (ceq T h t x y) = some v)
    (h1 : ∀ k n, x ≠ .int k n) (h4 : ∀ s, x ≠ .string s) (hni : x = .nilIface → y = .nilIface → False) :
    (do eqGuard op t xo yo x' y'; binOp op t x' y' : Sem Value).run P w = .ok v w ∧ scal v = true := by
  have hr : ∃ b, ceq T h t x y = some b := by
    unfold ceqOp at hv
    split at hv
    · obtain ⟨b, hb, _⟩ := omap hv; exact ⟨b, hb⟩
    · obtain ⟨b, hb, _⟩ := omap hv; exact ⟨b, hb⟩
    · cases hv
  obtain ⟨b, hb⟩ := hr
  have heq := ceq_sound hT hR hx hy hb 9998
  have hfl : ∀ k n, x ≠ .float k n := by
    rintro k n rfl
    obtain ⟨d, hd, hc⟩ := obind hb
    unfold ceqD at hc
    split at hc <;> first | (simp [aggOf] at hc; done) | (simp [ceqSlice] at hc; done) | (simp [ceqMap] at hc; done) | (simp [ceqIface] at hc; done) | (simp [ceqFunc] at hc; done) | (obtain ⟨_, hc⟩ := ocond hc; simp [aggOf, cptr, ptrOf] at hc; done) | (simp [ceq1_float, ceq1_complex] at hc; done)
  have hcl : ∀ k n m, x ≠ .complex k n m := by
    rintro k n m rfl
    obtain ⟨d, hd, hc⟩ := obind hb
    unfold ceqD at hc
    split at hc <;> first | (simp [aggOf] at hc; done) | (simp [ceqSlice] at hc; done) | (simp [ceqMap] at hc; done) | (simp [ceqIface] at hc; done) | (simp [ceqFunc] at hc; done) | (obtain ⟨_, hc⟩ := ocond hc; simp [aggOf, cptr, ptrOf] at hc; done) | (simp [ceq1_float, ceq1_complex] at hc; done)
  have head : (∀ k n, x' ≠ .int k n) ∧ (∀ k n, x' ≠ .float k n) ∧ (∀ k a b, x' ≠ .complex k a b) ∧ (∀ s, x' ≠ .string s) ∧ (x' = .nilIface → x = .nilIface) ∧ (∀ a, x' = .agg a → ∃ a0, x = .agg a0) := by
    cases hx <;> refine ⟨?_, ?_, ?_, ?_, ?_, ?_⟩ <;> first | (intros; simp; done) | (intro _ _; exact h1 _ _) | (intro _ _; exact hfl _ _) | (intro _ _ _; exact hcl _ _ _) | (intro _; exact h4 _) | (intro hh; exact hh) | (intro a ha; cases ha; simp_all [flat]; done) | (intro hh; cases hh; done) | (intro a ha; exact ⟨_, rfl⟩) | (intro a ha; cases ha)
  obtain ⟨g1, g2, g3, g4, g5, g6⟩ := head
  have hy0 : y' = .nilIface → y = .nilIface := by
    rintro rfl
    cases hy; rfl
  have hg := run_eqGuard (P := P) (t := t) (xo := xo) (yo := yo) (x := x') (y := y') op (by
    intro a c ha hc
    obtain ⟨a0, rfl⟩ := g6 a ha
    obtain ⟨d, hd, hc1⟩ := obind hb
    unfold ceqD at hc1
    split at hc1
    · exact (hT.plain t (ocond hc1).1).1
    · simp [cptr, ptrOf] at hc1
    · simp [ceqSlice] at hc1
    · simp [ceqMap] at hc1
    · simp [ceqIface] at hc1
    · simp [ceqFunc] at hc1
    · simp [ceq1_agg] at hc1) (fun ha hc => absurd (hy0 hc) (hni (g5 ha))) w
  cases op <;> simp only [ceqOp] at hv <;> first | (cases hv; done) | skip
  case eql =>
    rw [hb] at hv
    cases hv
    refine ⟨?_, rfl⟩
    simp only [Sem.run_bind, hg, Result.andThen_ok, binOp_eql t g1 g2 g3 g4, Op.equal, Op.maxDepth, heq, Sem.run_pure]
  case neq =>
    rw [hb] at hv
    cases hv
    refine ⟨?_, rfl⟩
    simp only [Sem.run_bind, hg, Result.andThen_ok, binOp_neq t g1 g2 g3 g4, Op.equal, Op.maxDepth, heq, Sem.run_pure]
theorem cbin_sound (hT : TabOk P T) (hR : R B0 w0 e h w) {op : BinOp} {t : TypeId} {xo yo : Operand} {x y x' y' v : Value} (hx : VR e x x') (hy : VR e y y') (hv : cbin T h op t xo yo x y = some v) :
    (do eqGuard op t xo yo x' y'; binOp op t x' y' : Sem Value).run P w = .ok v w ∧ scal v = true := by
  unfold cbin at hv
  split at hv
  · rename_i k a
    split at hv
    · rename_i k' b
      rw [hx.int, hy.int]
      have hg := run_eqGuard (P := P) (t := t) (xo := xo) (yo := yo) (x := .int k a) (y := .int k' b) op (fun _ _ hh => by cases hh) (fun hh => by cases hh) w
      rw [cond_eq] at hv
      by_cases hk : decide (k = k') = true
      · rw [if_pos hk] at hv
        have hk := of_decide_eq_true hk
        subst hk
        obtain ⟨h1, h2⟩ := cint_sound hv t
        exact ⟨by rw [Sem.run_bind, hg, Result.andThen_ok, h1]; rfl, h2⟩
      · rw [if_neg hk] at hv
        unfold cintShift at hv
        split at hv
        · obtain ⟨h1, h2⟩ := pureV_some hv
          have hb : binOp .shl t (.int k a) (.int k' b) = Op.shift .shl k a k' b := rfl
          exact ⟨by rw [Sem.run_bind, hg, Result.andThen_ok, hb, h1]; rfl, h2⟩
        · obtain ⟨h1, h2⟩ := pureV_some hv
          have hb : binOp .shr t (.int k a) (.int k' b) = Op.shift .shr k a k' b := rfl
          exact ⟨by rw [Sem.run_bind, hg, Result.andThen_ok, hb, h1]; rfl, h2⟩
        · cases hv
    · cases hv
  · rename_i a
    split at hv
    · rename_i b
      rw [hx.string, hy.string]
      have hg := run_eqGuard (P := P) (t := t) (xo := xo) (yo := yo) (x := .string a) (y := .string b) op (fun _ _ hh => by cases hh) (fun hh => by cases hh) w
      obtain ⟨h1, h2⟩ := cstr_sound hv t w
      exact ⟨by rw [Sem.run_bind, hg, Result.andThen_ok, h1], h2⟩
    · cases hv
  · split at hv
    · rw [hx.inil, hy.inil]
      obtain ⟨h0, h1⟩ := ocond hv
      rw [Bool.and_eq_true] at h0
      have hg := run_eqGuard (P := P) (t := t) (xo := xo) (yo := yo) (x := .nilIface) (y := .nilIface) op (fun _ _ hh => by cases hh) (fun _ _ => h0.1) w
      have hu : ∃ ms, T.und t = some (.interface ms) := by
        have h2 := h0.2
        unfold isIfaceD at h2
        split at h2
        · exact ⟨_, ‹_›⟩
        · cases h2
      obtain ⟨ms, hu⟩ := hu
      have heq0 : ∀ d, (Op.equalIn (d + 1) t .nilIface .nilIface).run P w = .ok true w := fun d => by
        simp [Op.equalIn, run_und hT hu]
      have heq := heq0 9999
      unfold ceqOp at h1
      split at h1
      · cases h1
        refine ⟨?_, rfl⟩
        rw [Sem.run_bind, hg, Result.andThen_ok, binOp_eql t (by simp) (by simp) (by simp) (by simp)]
        simp only [Sem.run_bind, Op.equal, Op.maxDepth, heq, Result.andThen_ok, Sem.run_pure]
      · cases h1
        refine ⟨?_, rfl⟩
        rw [Sem.run_bind, hg, Result.andThen_ok, binOp_neq t (by simp) (by simp) (by simp) (by simp)]
        simp only [Sem.run_bind, Op.equal, Op.maxDepth, heq, Result.andThen_ok, Sem.run_pure]
      · cases h1
    · rename_i hne
      exact ceqOp_sound hT hR hx hy hv (by simp) (by simp) (fun _ hh => hne hh)
  · rename_i h1 h2 h3
    exact ceqOp_sound hT hR hx hy hv h1 h2 (fun hh => absurd hh h3)
theorem cun_sound {op : UnOp} {x x' v : Value} (hx : VR e x x') (hv : cun op x = some v) : Op.unary op x' = .pure v ∧ scal v = true := by
  unfold cun at hv
  split at hv
  · rw [hx.int]; exact pureV_some hv
  · rw [hx.bool]; exact pureV_some hv
  · cases hv
theorem ev_sound {n : Nat} {tm : PT Value} {a : Act} (ht : TR e n tm a.tmps) {x : Operand} {v : Value} (hv : ev tm x = some v) : VR e v (a.eval x) := by
  cases x with
  | tmp t =>
    obtain ⟨v', h1, h2⟩ := ht.get hv
    simpa [Act.eval, h1] using h2
  | const c =>
    obtain ⟨h1, h2⟩ := ocond hv
    cases h2
    exact VR.flat1 h1
  | global g => cases hv
  | func f => cases hv; exact .func .nil .nil
theorem evs_sound {n : Nat} {tm : PT Value} {a : Act} (ht : TR e n tm a.tmps) : ∀ {xs : List Operand} {l : List Value}, evs tm xs = some l → VL e l (xs.map a.eval)
  | [], l, hl => by cases hl; exact .nil
  | x :: r, l, hl => by
    obtain ⟨v, h1, h2⟩ := obind hl
    obtain ⟨l', h3, rfl⟩ := omap h2
    exact .cons (ev_sound ht h1) (evs_sound ht h3)
theorem natOf_some {v : Value} {n : Nat} (hv : natOf v = some n) : ∃ k, v = .int k n := by
  unfold natOf at hv
  split at hv
  · cases hv; exact ⟨_, rfl⟩
  · cases hv
theorem cbound_none {tm : PT Value} {d q : Nat} (hq : cbound tm d none = some q) : q = d := by cases hq; rfl
theorem cbound_some {n : Nat} {tm : PT Value} {a : Act} (ht : TR e n tm a.tmps) {d q : Nat} {x : Operand} (hq : cbound tm d (some x) = some q) : ∃ k, a.eval x = .int k q := by
  obtain ⟨v, h1, h2⟩ := obind hq
  obtain ⟨k, rfl⟩ := natOf_some h2
  exact ⟨k, (ev_sound ht h1).int⟩
theorem run_sliceBound (k : IntKind) (q y : Nat) (c : BoundsCode) (hq : q ≤ y) (w : World) : (Instr.sliceBound (.int k q) y c).run P w = .ok q w := by
  simp [Instr.sliceBound, asIntOf, hq]
def BoundIs (d : Nat) (x : Option Value) (q : Nat) : Prop := (x = none ∧ q = d) ∨ ∃ k, x = some (.int k q)
theorem cbound_is {n : Nat} {tm : PT Value} {a : Act} (ht : TR e n tm a.tmps) {d q : Nat} {x : Option Operand} (hq : cbound tm d x = some q) : BoundIs d (x.map a.eval) q := by
  cases x with
  | none => exact .inl ⟨rfl, cbound_none hq⟩
  | some x =>
    obtain ⟨k, hk⟩ := cbound_some ht hq
    exact .inr ⟨k, by simp [hk]⟩
theorem run_bounds2 {isS : Bool} {len cap l q : Nat} {lo hi : Option Value} (hl : BoundIs 0 lo l) (hh : BoundIs len hi q) (h1 : q ≤ cap) (h2 : l ≤ q) (w : World) :
    (Instr.sliceBounds isS len cap lo hi none).run P w = .ok (l, q, cap) w := by
  rcases hh with ⟨rfl, rfl⟩ | ⟨k, rfl⟩ <;> rcases hl with ⟨rfl, rfl⟩ | ⟨k2, rfl⟩ <;> simp [Instr.sliceBounds, run_sliceBound, h1, h2]
theorem run_bounds3 {isS : Bool} {len cap l q m : Nat} {lo : Option Value} {kh km : IntKind} (hl : BoundIs 0 lo l) (h0 : m ≤ cap) (h1 : q ≤ m) (h2 : l ≤ q) (w : World) :
    (Instr.sliceBounds isS len cap lo (some (.int kh q)) (some (.int km m))).run P w = .ok (l, q, m) w := by
  rcases hl with ⟨rfl, rfl⟩ | ⟨k2, rfl⟩ <;> simp [Instr.sliceBounds, run_sliceBound, h0, h1, h2]
theorem okBounds_iff {cap l q : Nat} (hb : okBounds cap l q = true) : q ≤ cap ∧ l ≤ q := by
  unfold okBounds at hb
  rw [Bool.and_eq_true, nble, nble] at hb
  exact hb
theorem strSub_eq (s : ByteArray) (l q : Nat) (hq : q ≤ s.data.toList.length) : strSub s.data.toList l q = s.extract l q := by
  have h1 : (s.extract l q).data = s.data.extract l q := ByteArray.data_extract
  cases h : s.extract l q with
  | mk d =>
    rw [h] at h1
    simp only at h1
    subst h1
    unfold strSub
    congr 1
    apply Array.toList_inj.1
    simp [List.extract_eq_take_drop]
theorem run_sliceAt_slice (hT : TabOk P T) {t el : TypeId} (hu : T.und t = some (.slice el)) (x : Value) (lo hi mx : Option Value) (w : World) :
    (Instr.sliceAt t x lo hi mx).run P w = (Instr.slice t x lo hi mx).run P w := by
  simp [Instr.sliceAt, run_und hT hu]
theorem run_slice_slice (hT : TabOk P T) {t el : TypeId} {s : Nat} (hu : T.und t = some (.slice el)) (hs : T.size el = some s) (a : Option Addr) (len cap : Nat) (lo hi mx : Option Value) {l q m : Nat} (w : World)
    (hb : (Instr.sliceBounds true len cap lo hi mx).run P w = .ok (l, q, m) w) :
    (Instr.sliceAt t (.slice a len cap) lo hi mx).run P w = .ok (.slice (if m = l then a else a.map (·.add (l * s))) (q - l) (m - l)) w := by
  rw [run_sliceAt_slice hT hu]
  simp [Instr.slice, run_und hT hu, hb, run_size hT hs]
theorem subAddr_sound {b o r sh K l q m s : Nat} {a : Option Addr} {v : Value} (ha : a = some ⟨b, o, none⟩) (he : e b = some (r, sh, K)) (hm : m < unk) (hv : subAddr a s l q m = some v) :
    VR e v (.slice (if m = l then some ⟨r, sh + o, none⟩ else (some (⟨r, sh + o, none⟩ : Addr)).map (·.add (l * s))) (q - l) (m - l)) := by
  subst ha
  simp only [subAddr, Option.some.injEq] at hv
  subst hv
  rw [cond_eq]
  by_cases hml : m = l
  · rw [if_pos ((nbeq _ _).2 hml), if_pos hml]
    exact .slice he (by omega)
  · rw [if_neg (fun hh => hml ((nbeq _ _).1 hh)), if_neg hml]
    simp only [Option.map_some, add_none]
    rw [Nat.add_assoc]
    exact .slice he (by omega)
theorem subAddr_zero {b o r sh K l q m s : Nat} {a : Option Addr} {v : Value} {ra : Addr} (ha : a = some ⟨b, o, none⟩) (he : e b = some (r, sh, K)) (hq : l = 0 ∧ q = 0) (hm : m = 0) (hv : subAddr a s l q m = some v) :
    VR e v (.slice (if m = l then some ra else (some (ra : Addr)).map (·.add (l * s))) (q - l) (m - l)) := by
  obtain ⟨rfl, rfl⟩ := hq
  subst ha hm
  simp only [subAddr, Option.some.injEq] at hv
  subst hv
  rw [if_pos rfl]
  exact .sliceE he (.inl rfl)
theorem cslice_sound (hT : TabOk P T) {n : Nat} {tm : PT Value} {a : Act} (ht : TR e n tm a.tmps) {t : TypeId} {x x' v : Value} {lo hi mx : Option Operand} (hx : VR e x x') (hv : cslice T tm t x lo hi mx = some v) (w : World) :
    ∃ v', (Instr.sliceAt t x' (lo.map a.eval) (hi.map a.eval) (mx.map a.eval)).run P w = .ok v' w ∧ VR e v v' := by
  unfold cslice at hv
  split at hv
  · rename_i s
    split at hv
    · rename_i hu
      split at hv
      · obtain ⟨q, hq, h1⟩ := obind hv
        obtain ⟨l, hl, h2⟩ := obind h1
        obtain ⟨h3, h4⟩ := ocond h2
        cases h4
        obtain ⟨h5, h6⟩ := okBounds_iff h3
        rw [hx.string]
        have hlen : s.data.toList.length = s.size := Array.length_toList
        rw [hlen] at hq h5
        have hb := run_bounds2 (P := P) (isS := false) (cap := s.size) (cbound_is ht hl) (cbound_is ht hq) h5 h6 w
        refine ⟨.string (s.extract l q), ?_, ?_⟩
        · simp [Instr.sliceAt, Instr.slice, run_und hT hu, hb]
        · rw [strSub_eq s l q (by rw [hlen]; exact h5)]; exact .flat rfl
      · cases hv
    · cases hv
  · rename_i a0 len cap
    split at hv
    · rename_i el hu
      obtain ⟨s, hs, h1⟩ := obind hv
      obtain ⟨h2, h3⟩ := ocond h1
      clear hv h1
      unfold csliceV at h3
      split at h3
      · rw [cond_eq] at h3
        by_cases hc : Nat.ble unk cap = true
        · rw [if_pos hc] at h3
          obtain ⟨q, hq, h4⟩ := obind h3
          obtain ⟨l, hl, h5⟩ := obind h4
          obtain ⟨h6, h7⟩ := ocond h5
          rw [Bool.and_eq_true] at h6
          obtain ⟨h8, h9⟩ := okBounds_iff h6.1
          have h10 := (nbeq _ _).1 h6.2
          split at h7
          · rename_i b o
            cases h7
            obtain ⟨r, sh, K, he, hcase⟩ := hx.sliceI
            rcases hcase with ⟨hlt, _⟩ | ⟨s', c', hs', rfl, hlc, hK⟩ | ⟨ra, oa, hs', hlen0, rfl⟩
            · have := (nble _ _).1 hc; omega
            · have : s' = s := by omega
              subst this
              have hb := run_bounds2 (P := P) (isS := true) (cap := c') (cbound_is ht hl) (cbound_is ht hq) (by omega) h9 w
              refine ⟨_, run_slice_slice hT hu hs _ len c' _ _ _ w hb, ?_⟩
              by_cases hcl : c' = l
              · rw [if_pos hcl]
                have e1 : q - l = 0 := by omega
                have e2 : c' - l = 0 := by omega
                rw [e1, e2, h10]
                exact .sliceE he (.inr (by omega))
              · rw [if_neg hcl, h10]
                simp only [Option.map_some, add_none]
                rw [Nat.add_assoc]
                refine .sliceU he (by omega) ?_
                have hm : c' * s' = (c' - l) * s' + l * s' := by rw [← Nat.add_mul]; congr 1; omega
                omega
            · have hq0 : q = 0 := by omega
              have hl0 : l = 0 := by omega
              subst hq0 hl0
              subst hlen0
              have hb := run_bounds2 (P := P) (isS := true) (cap := 0) (cbound_is ht hl) (cbound_is ht hq) (by omega) h9 w
              refine ⟨_, run_slice_slice hT hu hs _ 0 0 _ _ _ w hb, ?_⟩
              rw [if_pos rfl, h10]
              exact .sliceE he (.inr (by omega))
          · cases h7
        · rw [if_neg hc] at h3
          have hcu : cap < unk := by rw [nble] at hc; omega
          obtain ⟨q, hq, h4⟩ := obind h3
          obtain ⟨l, hl, h5⟩ := obind h4
          obtain ⟨h6, h7⟩ := ocond h5
          obtain ⟨h8, h9⟩ := okBounds_iff h6
          have hb := run_bounds2 (P := P) (isS := true) (cap := cap) (cbound_is ht hl) (cbound_is ht hq) h8 h9 w
          cases a0 with
          | none =>
            rw [hx.snil]
            obtain ⟨h10, h11⟩ := ocond h7
            have h10 := (nbeq _ _).1 h10
            cases h11
            refine ⟨_, run_slice_slice hT hu hs _ len cap _ _ _ w hb, ?_⟩
            rw [if_pos (by omega), show q - l = 0 by omega, show cap - l = 0 by omega]
            exact .flat rfl
          | some aa =>
            have : ∃ b o, aa = ⟨b, o, none⟩ := by
              obtain ⟨b, o, sp⟩ := aa
              cases sp with
              | none => exact ⟨b, o, rfl⟩
              | some _ => simp [subAddr] at h7
            obtain ⟨b, o, rfl⟩ := this
            obtain ⟨r, sh, K, he, hcase⟩ := hx.sliceI
            rcases hcase with ⟨_, rfl⟩ | ⟨s', c', hs', _⟩ | ⟨ra, oa, hs', hlen0, rfl⟩
            · exact ⟨_, run_slice_slice hT hu hs _ len cap _ _ _ w hb, subAddr_sound rfl he hcu h7⟩
            · omega
            · have hcap : cap = 0 := by omega
              subst hcap hlen0
              refine ⟨_, run_slice_slice hT hu hs _ 0 0 _ _ _ w hb, ?_⟩
              exact subAddr_zero rfl he (by omega) (by omega) h7
      · split at h3
        · rename_i mo hio
          obtain ⟨m, hm, h4⟩ := obind h3
          obtain ⟨q, hq, h5⟩ := obind h4
          obtain ⟨l, hl, h6⟩ := obind h5
          obtain ⟨h7, h8⟩ := ocond h6
          rw [Bool.and_eq_true, Bool.and_eq_true, nble, nble] at h7
          obtain ⟨h9, h10⟩ := okBounds_iff h7.2
          have hmu := h7.1.2
          obtain ⟨vm, hvm, hm1⟩ := obind hm
          obtain ⟨km, rfl⟩ := natOf_some hm1
          obtain ⟨vq, hvq, hq1⟩ := obind hq
          obtain ⟨kq, rfl⟩ := natOf_some hq1
          have em := (ev_sound ht hvm).int
          have eq_ := (ev_sound ht hvq).int
          simp only [Option.map_some, em, eq_]
          cases a0 with
          | none =>
            rw [hx.snil]
            obtain ⟨h11, h12⟩ := ocond h8
            have h11 := (nbeq _ _).1 h11
            cases h12
            have hb := run_bounds3 (P := P) (isS := true) (len := len) (cap := cap) (kh := kq) (km := km) (cbound_is ht hl) (by omega) h9 h10 w
            refine ⟨_, run_slice_slice hT hu hs _ len cap _ _ _ w hb, ?_⟩
            rw [if_pos (by omega), show q - l = 0 by omega, show m - l = 0 by omega]
            exact .flat rfl
          | some aa =>
            have : ∃ b o, aa = ⟨b, o, none⟩ := by
              obtain ⟨b, o, sp⟩ := aa
              cases sp with
              | none => exact ⟨b, o, rfl⟩
              | some _ => simp [subAddr] at h8
            obtain ⟨b, o, rfl⟩ := this
            obtain ⟨r, sh, K, he, hcase⟩ := hx.sliceI
            have h7 := h7.1.1
            rw [cond_eq] at h7
            rcases hcase with ⟨hcu, rfl⟩ | ⟨s', c', hs', rfl, hlc, hK⟩ | ⟨ra, oa, hs', hlen0, rfl⟩
            · rw [if_neg (by rw [nble]; omega)] at h7
              have hb := run_bounds3 (P := P) (isS := true) (len := len) (cap := cap) (kh := kq) (km := km) (cbound_is ht hl) h7 h9 h10 w
              exact ⟨_, run_slice_slice hT hu hs _ len cap _ _ _ w hb, subAddr_sound rfl he (by omega) h8⟩
            · rw [if_pos (by rw [nble]; omega)] at h7
              have hb := run_bounds3 (P := P) (isS := true) (len := len) (cap := c') (kh := kq) (km := km) (cbound_is ht hl) (by omega) h9 h10 w
              exact ⟨_, run_slice_slice hT hu hs _ len c' _ _ _ w hb, subAddr_sound rfl he (by omega) h8⟩
            · have hm0 : m = 0 := by
                rcases hs' with h00 | h01
                · rw [if_neg (by rw [nble]; unfold unk; omega)] at h7; omega
                · rw [if_pos ((nble _ _).2 h01)] at h7; omega
              have hb := run_bounds3 (P := P) (isS := true) (len := 0) (cap := 0) (kh := kq) (km := km) (cbound_is ht hl) (by omega) h9 h10 w
              refine ⟨_, run_slice_slice hT hu hs _ 0 0 _ _ _ w hb, ?_⟩
              exact subAddr_zero rfl he (by omega) hm0 h8
        · cases h3
    · cases hv
  · cases hv
end
end Go.Cx
set_option linter.unusedSimpArgs false
set_option linter.unusedVariables false
namespace Go.Cx
open Go.RowKit (Below)
section
variable {P : Program} {T : Tab} {B0 : Nat} {w0 w : World} {e : Env} {h : CH}
theorem foldl_set (off : Nat) : ∀ (l : List Value) (k : Nat) (cs : Array Value), off + k + l.length ≤ cs.size →
    ((l.zipIdx k).foldl (fun cs (p : Value × Nat) => cs.setIfInBounds (off + p.2) p.1) cs).size = cs.size ∧
    ∀ i, ((l.zipIdx k).foldl (fun cs (p : Value × Nat) => cs.setIfInBounds (off + p.2) p.1) cs)[i]? = if off + k ≤ i ∧ i < off + k + l.length then l[i - (off + k)]? else cs[i]?
  | [], k, cs, hk => ⟨rfl, fun i => by rw [if_neg (by simp)]; rfl⟩
  | v :: l, k, cs, hk => by
    simp only [List.length_cons] at hk
    simp only [List.zipIdx_cons, List.foldl_cons]
    obtain ⟨h1, h2⟩ := foldl_set off l (k + 1) (cs.setIfInBounds (off + k) v) (by simp; omega)
    refine ⟨by rw [h1]; simp, fun i => ?_⟩
    rw [h2, Array.getElem?_setIfInBounds]
    simp only [List.length_cons]
    by_cases a : off + k = i
    · subst a
      rw [if_neg (by omega), if_pos rfl, if_pos (by omega), if_pos (by omega)]
      simp
    · rw [if_neg a]
      by_cases b : off + k + 1 ≤ i ∧ i < off + k + 1 + l.length
      · rw [if_pos (by omega), if_pos (by omega), show i - (off + k) = (i - (off + (k + 1))) + 1 by omega]
        rfl
      · rw [if_neg (by omega), if_neg (by omega)]
inductive NL (e : Env) : List (Nat × Value) → List (Nat × Value) → Prop
  | nil : NL e [] []
  | cons {i : Nat} {v v' : Value} {l l' : List (Nat × Value)} (h : VR e v v') (t : NL e l l') : NL e ((i, v) :: l) ((i, v') :: l')
theorem fill_eq {cs cs' : List Value} {real : Array Value} {vs vs' r : List Value} {off : Nat} (hc : VL e cs real.toList) (hv : VL e vs vs') (hr : lsplice vs cs off = some r) :
    off + vs'.length ≤ real.size ∧ VL e r ((vs'.zipIdx 0).foldl (fun cs (p : Value × Nat) => cs.setIfInBounds (off + p.2) p.1) real).toList := by
  have hlen := (lsplice_some _ _ _ _ hr).1
  have hl1 := hc.length
  have hl2 := hv.length
  simp only [Array.length_toList] at hl1
  obtain ⟨h1, h2⟩ := foldl_set off vs' 0 real (by omega)
  refine ⟨by omega, VL.of_get ((lsplice_length hr).trans (hl1.trans (h1.symm.trans Array.length_toList.symm))) fun i v v' g g' => ?_⟩
  rw [lsplice_get hr] at g
  rw [Array.getElem?_toList, h2] at g'
  simp only [Nat.add_zero] at g'
  by_cases hi : off ≤ i ∧ i < off + vs.length
  · rw [if_pos hi] at g
    rw [if_pos (by omega)] at g'
    obtain ⟨u, hu, hvr⟩ := hv.get _ _ g
    rw [hu] at g'
    cases g'
    exact hvr
  · rw [if_neg hi] at g
    rw [if_neg (by omega)] at g'
    obtain ⟨u, hu, hvr⟩ := hc.get _ _ g
    rw [Array.getElem?_toList, g'] at hu
    cases hu
    exact hvr
theorem cfill_sound {place place' : Nat → Option (Nat × Nat)} (hp : ∀ i q, place i = some q → place' i = some q) : ∀ {ps ps' : List (Nat × Value)} {cs r : List Value} {real : Array Value}, NL e ps ps' → VL e cs real.toList → cfill place ps cs = some r →
    ∃ r', Instr.fill place' real ps' = some r' ∧ VL e r r'.toList
  | _, _, cs, r, real, .nil, hc, hr => by cases hr; exact ⟨real, rfl, hc⟩
  | _, _, cs, r, real, .cons (i := i) (v := v) (v' := v') hv ht, hc, hr => by
    obtain ⟨q, hq, h1⟩ := obind hr
    obtain ⟨h2, h3⟩ := ocond h1
    obtain ⟨cs2, h4, h5⟩ := obind h3
    have h2 := (nbeq _ _).1 h2
    obtain ⟨h6, h7⟩ := fill_eq (cs' := cs) hc hv.cells h4
    obtain ⟨r', h8, h9⟩ := cfill_sound hp ht h7 h5
    refine ⟨r', ?_, h9⟩
    have hs : v'.cells.size = q.2 := by rw [← h2, hv.cells.length, Array.length_toList]
    have hs2 : v'.cells.toList.length = v'.cells.size := Array.length_toList
    obtain ⟨off, sz⟩ := q
    simp only at hs h6
    simp only [Instr.fill, hp i _ hq]
    rw [if_neg (by simp [hs]; omega)]
    rw [← h8]
    congr 1
    rw [← Array.foldl_toList, Array.toList_zipIdx]
theorem cparts_sound {n : Nat} {tm : PT Value} {a : Act} (ht : TR e n tm a.tmps) : ∀ {ps : List (Nat × Operand)} {l : List (Nat × Value)}, cparts tm ps = some l → NL e l (ps.map fun p => (p.1, a.eval p.2))
  | [], l, hl => by cases hl; exact .nil
  | p :: r, l, hl => by
    obtain ⟨v, h1, h2⟩ := obind hl
    obtain ⟨l', h3, rfl⟩ := omap h2
    exact .cons (ev_sound ht h1) (cparts_sound ht h3)
theorem run_places (hT : TabOk P T) (w : World) : ∀ {fs : List Field} {pl : List (Nat × Nat)}, places T fs = some pl →
    (fs.mapM (fun f => do pure (f.offset, ← sizeOf f.type) : Field → Sem (Nat × Nat))).run P w = .ok pl w
  | [], pl, hp => by cases hp; simp
  | f :: fs, pl, hp => by
    obtain ⟨s, h1, h2⟩ := obind hp
    obtain ⟨r, h3, rfl⟩ := omap h2
    have ih := run_places hT w h3
    simp only [List.mapM_cons, Sem.run_bind, run_size hT h1, Result.andThen_ok, Sem.run_pure, ih]
theorem zeroCells_some {t : TypeId} {z : List Value} (hz : zeroCellsOf T t = some z) : ∃ i v, T.info t = some i ∧ i.zero = some v ∧ flat1 v = true ∧ z = v.cells.toList := by
  obtain ⟨i, h1, h2⟩ := obind hz
  obtain ⟨v, h3, h4⟩ := obind h2
  obtain ⟨h5, h6⟩ := ocond h4
  cases h6
  exact ⟨i, v, h1, h3, h5, rfl⟩
theorem structOf_some {d : Option TypeDesc} {fs : List Field} (hd : structOf d = some fs) : ∃ a : Array Field, d = some (.struct a) ∧ fs = a.toList := by
  unfold structOf at hd
  split at hd
  · cases hd; exact ⟨_, rfl, rfl⟩
  · cases hd
theorem cbuild_sound (hT : TabOk P T) {n : Nat} {tm : PT Value} {a : Act} (ht : TR e n tm a.tmps) {t : TypeId} {parts : Array (Nat × Operand)} {v : Value} (hv : cbuild T tm t parts.toList = some v) (w : World) :
    ∃ v', (Instr.build t (parts.map fun (i, x) => (i, a.eval x))).run P w = .ok v' w ∧ VR e v v' := by
  obtain ⟨fs, h1, h2⟩ := obind hv
  obtain ⟨z, h3, h4⟩ := obind h2
  obtain ⟨ps, h5, h6⟩ := obind h4
  obtain ⟨pl, h7, h8⟩ := obind h6
  obtain ⟨cs, h9, rfl⟩ := omap h8
  obtain ⟨fa, hu, rfl⟩ := structOf_some h1
  obtain ⟨i, zv, hi, hz, hfl, rfl⟩ := zeroCells_some h3
  obtain ⟨r', h10, h11⟩ := cfill_sound (e := e) (place' := fun i => (pl.toArray)[i]?) (fun i q hq => by rw [lget_eq] at hq; simpa using hq) (cparts_sound ht h5) (VR.flat1 hfl).cells h9
  refine ⟨.agg r', ?_, .agg (by simpa using h11)⟩
  have hpl := run_places hT w h7
  have hmap : (fa.mapM (fun f => do pure (f.offset, ← sizeOf f.type) : Field → Sem (Nat × Nat))).run P w = .ok pl.toArray w := by
    rw [Array.mapM_eq_mapM_toList, Sem.run_map, hpl]
    rfl
  simp only [Instr.build, Sem.run_bind, run_zero hT hi hz, Result.andThen_ok, run_und hT hu, hmap]
  have : (parts.map fun (i, x) => (i, a.eval x)).toList = parts.toList.map fun p => (p.1, a.eval p.2) := by simp
  rw [this, h10]
  rfl
theorem cpick_sound {n : Nat} {tm : PT Value} {a : Act} (ht : TR e n tm a.tmps) {c c' : Value} {x y : Operand} {v : Value} (hc : VR e c c') (hv : cpick tm c x y = some v) :
    ∃ b, c' = .bool b ∧ VR e v (if b then a.eval x else a.eval y) := by
  unfold cpick at hv
  split at hv
  · exact ⟨true, hc.bool, ev_sound ht hv⟩
  · exact ⟨false, hc.bool, ev_sound ht hv⟩
  · cases hv
theorem cmkI_sound (hT : TabOk P T) {t : TypeId} {x x' v : Value} (hx : VR e x x') (hv : cmkI T t x = some v) (w : World) : ∃ v', (Instr.makeInterface t x').run P w = .ok v' w ∧ VR e v v' := by
  obtain ⟨d, hd, h1⟩ := obind hv
  split at h1
  · cases h1
  · rename_i hne
    cases h1
    refine ⟨.iface t x', ?_, .iface hx⟩
    simp only [Instr.makeInterface, Sem.run_bind, run_und hT hd, Result.andThen_ok]
    cases d <;> first | rfl | exact absurd rfl (hne _)
theorem cfieldAddr_sound (hT : TabOk P T) {s : TypeId} {x x' v : Value} {f : Nat} (hx : VR e x x') (hv : cfieldAddr T s x f = some v) (w : World) : ∃ v', (Instr.fieldAt s x' f).run P w = .ok v' w ∧ VR e v v' := by
  obtain ⟨fs, h1, h2⟩ := obind hv
  obtain ⟨fd, h3, h4⟩ := obind h2
  obtain ⟨p, h5, h6⟩ := obind h4
  obtain ⟨h7, h8⟩ := ocond h6
  obtain ⟨fa, hu, rfl⟩ := structOf_some h1
  rw [ptrOf_some h5] at hx
  obtain ⟨r, sh, K, he, rfl⟩ := hx.ptrI
  cases h8
  rw [lget_eq, Array.getElem?_toList] at h3
  have hs : ∃ q, T.size fd.type = some (q + 1) := by
    unfold posSize at h7
    split at h7
    · exact ⟨_, ‹_›⟩
    · cases h7
  obtain ⟨q, hq⟩ := hs
  refine ⟨.pointer (some ⟨r, sh + (p.2 + fd.offset), none⟩), ?_, .ptr he⟩
  simp [Instr.fieldAt, run_und hT hu, h3, Instr.sureAddr, fieldPlace, run_size hT hq, add_none, Nat.add_assoc]
theorem cfield_sound (hT : TabOk P T) {s : TypeId} {x x' v : Value} {f : Nat} (hx : VR e x x') (hv : cfield T s x f = some v) (w : World) : ∃ v', (Instr.field s x' f).run P w = .ok v' w ∧ VR e v v' := by
  obtain ⟨fs, h1, h2⟩ := obind hv
  obtain ⟨fd, h3, h4⟩ := obind h2
  obtain ⟨cs, h5, h6⟩ := obind h4
  obtain ⟨fa, hu, rfl⟩ := structOf_some h1
  obtain ⟨a, rfl, rfl⟩ := aggOf_some h5
  obtain ⟨a', rfl, ha⟩ := hx.aggI
  rw [lget_eq, Array.getElem?_toList] at h3
  obtain ⟨v', h7, h8⟩ := cpart_sound hT ha h6 w
  exact ⟨v', by simp [Instr.field, run_und hT hu, h3, asAgg, h7], h8⟩
theorem cindexAddr_sound (hT : TabOk P T) {t : TypeId} {x x' i i' v : Value} (hx : VR e x x') (hi : VR e i i') (hv : cindexAddr T t x i = some v) (w : World) : ∃ v', (Instr.indexAt t x' i').run P w = .ok v' w ∧ VR e v v' := by
  obtain ⟨d, hd, h1⟩ := obind hv
  obtain ⟨q, h2, h3⟩ := obind h1
  obtain ⟨k, h4, h5⟩ := obind h3
  obtain ⟨s, h6, h7⟩ := obind h5
  obtain ⟨h8, h9⟩ := ocond h7
  have h8 := (nble _ _).1 h8
  obtain ⟨kk, rfl⟩ := natOf_some h4
  rw [hi.int]
  cases h9
  unfold rowOf at h2
  split at h2
  · rename_i el
    split at h2
    · rename_i b o len cap
      cases h2
      obtain ⟨r, sh, K, he, hcase⟩ := hx.sliceI
      have key : ∀ c, ∃ v', (Instr.indexAt t (.slice (some ⟨r, sh + o, none⟩) len c) (.int kk k)).run P w = .ok v' w ∧ VR e (.pointer (some ⟨b, o + k * s, none⟩)) v' := by
        intro c
        refine ⟨.pointer (some ⟨r, sh + (o + k * s), none⟩), ?_, .ptr he⟩
        simp only at h8
        simp [Instr.indexAt, asIntOf, run_und hT hd, show k < len by omega, run_size hT h6, add_none, Nat.add_assoc]
      rcases hcase with ⟨_, rfl⟩ | ⟨s', c', _, rfl, _⟩ | ⟨ra, oa, _, hl0, rfl⟩
      · exact key _
      · exact key _
      · subst hl0; simp only at h8; omega
    · cases h2
  · rename_i len el
    obtain ⟨p, hp, rfl⟩ := omap h2
    rw [ptrOf_some hp] at hx
    obtain ⟨r, sh, K, he, rfl⟩ := hx.ptrI
    refine ⟨.pointer (some ⟨r, sh + (p.2 + k * s), none⟩), ?_, .ptr he⟩
    simp only at h8
    simp [Instr.indexAt, asIntOf, Instr.sureAddr, run_und hT hd, show k < len by omega, run_size hT h6, add_none, Nat.add_assoc]
  · cases h2
theorem cindex_sound (hT : TabOk P T) {t : TypeId} {x x' i i' v : Value} (hx : VR e x x') (hi : VR e i i') (hv : cindex T t x i = some v) (w : World) : (Instr.index t x' i').run P w = .ok v w ∧ scal v = true := by
  unfold cindex at hv
  split at hv
  · rename_i s
    split at hv
    · rename_i hu
      obtain ⟨k, h4, h5⟩ := obind hv
      obtain ⟨c, h6, rfl⟩ := omap h5
      obtain ⟨kk, rfl⟩ := natOf_some h4
      rw [hi.int, hx.string]
      rw [lget_eq, Array.getElem?_toList] at h6
      have h7 : s[k]? = some c := h6
      exact ⟨by simp [Instr.index, asIntOf, run_und hT hu, h7], rfl⟩
    · cases hv
  · cases hv
theorem cextract_sound {x x' v : Value} {i : Nat} (hx : VR e x x') (hv : cextract x i = some v) (w : World) : ∃ v', (Instr.extract x' i).run P w = .ok v' w ∧ VR e v v' := by
  unfold cextract at hv
  split at hv
  · obtain ⟨a', rfl, ha⟩ := hx.tupleI
    rw [lget_eq] at hv
    obtain ⟨v', h1, h2⟩ := ha.get _ _ hv
    rw [Array.getElem?_toList] at h1
    exact ⟨v', by simp [Instr.extract, h1], h2⟩
  · cases hv
theorem okPair_VR {ok b : Bool} {v v' : Value} (hv : VR e v v') : VR e (okPair ok b v) (if ok then .tuple #[v', .bool b] else v') := by
  cases ok
  · exact hv
  · exact .tuple (.cons hv (.cons (.flat rfl) .nil))
theorem cassert_sound (hT : TabOk P T) {x x' v : Value} {xt t : TypeId} {ok : Bool} (hx : VR e x x') (hv : cassert T x t ok = some v) (w : World) : ∃ v', (Instr.typeAssert x' xt t ok).run P w = .ok v' w ∧ VR e v v' := by
  unfold cassert at hv
  split at hv
  · rename_i u y
    obtain ⟨h1, h2⟩ := ocond' hv
    obtain ⟨d, hd, rfl⟩ := omap h2
    obtain ⟨y', rfl, hy⟩ := hx.ifaceI
    rw [Bool.or_eq_false_iff] at h1
    have hut : u = t := (nbeq _ _).1 (by simpa using h1.2)
    subst hut
    refine ⟨_, ?_, okPair_VR hy⟩
    have hni : ∀ ms, d ≠ .interface ms := by
      rintro ms rfl
      have := h1.1
      rw [hd] at this
      simp [isIfaceD] at this
    simp only [Instr.typeAssert, Sem.run_bind, run_und hT hd, Result.andThen_ok]
    cases d <;> first | exact absurd rfl (hni _) | (simp; done) | simp
  · cases hv
theorem getObj_map {r : Nat} {es : Array MapEntry} {c : Nat} (hw : w.heap[r]? = some (.map es c)) : (getObj r).run P w = .ok (.map es c) w := by
  simp [getObj, Sem.run, hw]
theorem mapOf_sound (hR : R B0 w0 e h w) {m m' : Value} {es : List MapEntry} (hm : VR e m m') (hes : mapOf h m = some es) :
    (m' = .map none ∧ es = []) ∨ ∃ r es' c, m' = .map (some r) ∧ w.heap[r]? = some (.map es' c) ∧ EL e es es'.toList := by
  unfold mapOf at hes
  split at hes
  · cases hes; exact .inl ⟨hm.mnil, rfl⟩
  · split at hes
    · rename_i b _ es1 clock hb
      cases hes
      obtain ⟨r, sh, K, he, rfl⟩ := hm.mapI
      obtain ⟨r', es', he', hw, _, hl⟩ := hR.obj _ _ hb
      rw [he] at he'
      cases he'
      exact .inr ⟨r, es', clock, rfl, hw, hl⟩
    · cases hes
  · cases hes
def RelE (e : Env) : Option (Nat × Value) → Option (Nat × Value) → Prop
  | none, none => True
  | some (i, v), some (j, v') => i = j ∧ VR e v v'
  | _, _ => False
theorem findAsk_sound (hT : TabOk P T) (hR : R B0 w0 e h w) {kt : TypeId} {k k' : Value} (hk : VR e k k') : ∀ {es es' : List MapEntry} {i : Nat} {r : Option (Nat × Value)}, EL e es es' → findE T h kt k es i = some r →
    ∃ r', (Instr.findAsking kt k' es' i).run P w = .ok r' w ∧ RelE e r r'
  | _, _, i, r, .nil, hr => by cases hr; exact ⟨none, by simp [Instr.findAsking], trivial⟩
  | _, _, i, r, .cons (k' := kk') (v' := v') hk1 hv1 ht, hr => by
    obtain ⟨b, hb, h1⟩ := obind hr
    have heq := ceq_sound hT hR hk hk1 hb 9998
    cases b with
    | true =>
      cases h1
      exact ⟨some (i, v'), by simp [Instr.findAsking, Op.equal, Op.maxDepth, heq], rfl, hv1⟩
    | false =>
      obtain ⟨r', h2, h3⟩ := findAsk_sound hT hR hk ht h1
      exact ⟨r', by simp [Instr.findAsking, Op.equal, Op.maxDepth, heq, h2], h3⟩
theorem sameNow_ceq1 {d : TypeDesc} {x y x' y' : Value} {b : Bool} (hd : (∃ k, d = .int k) ∨ d = .string) (hx : VR e x x') (hy : VR e y y') (hc : ceq1 d x y = some b) : Instr.sameNow d x' y' = some b := by
  unfold ceq1 at hc
  split at hc
  · rcases hd with ⟨k, hk⟩ | hk <;> cases hk
  · rename_i k0 j a j' c
    obtain ⟨hj, h2⟩ := ocond hc
    have hj : j = j' := of_decide_eq_true hj
    clear hc
    cases h2
    rw [hx.int, hy.int, hj]
    simp [Instr.sameNow]
  · cases hc
    rw [hx.string, hy.string]
    simp [Instr.sameNow, bytes_beq]
  · cases hc
theorem findNow_sound {T : Tab} {kt : TypeId} {d : TypeDesc} (hu : T.und kt = some d) (hd : (∃ k, d = .int k) ∨ d = .string) {k k' : Value} (hk : VR e k k') : ∀ {es es' : List MapEntry} {i : Nat} {r : Option (Nat × Value)}, EL e es es' → findE T h kt k es i = some r →
    ∃ r', Instr.findNow d k' es' i = some r' ∧ RelE e r r'
  | _, _, i, r, .nil, hr => by cases hr; exact ⟨none, rfl, trivial⟩
  | _, _, i, r, .cons (k := kq) (k' := kk') (v' := v') hk1 hv1 ht, hr => by
    obtain ⟨b, hb, h1⟩ := obind hr
    have hc : ceq1 d k kq = some b := by
      unfold ceq at hb
      rw [hu] at hb
      rcases hd with ⟨kk, rfl⟩ | rfl <;> exact hb
    have hs := sameNow_ceq1 hd hk hk1 hc
    cases b with
    | true =>
      cases h1
      exact ⟨some (i, v'), by simp [Instr.findNow, hs], rfl, hv1⟩
    | false =>
      obtain ⟨r', h2, h3⟩ := findNow_sound hu hd hk ht h1
      exact ⟨r', by simp [Instr.findNow, hs, h2], h3⟩
theorem findKey_sound (hT : TabOk P T) (hR : R B0 w0 e h w) {kt : TypeId} {k k' : Value} (hk : VR e k k') (hok : keyOk T kt k = true) {es es' : List MapEntry} {r : Option (Nat × Value)} (hes : EL e es es') (hr : findE T h kt k es 0 = some r) :
    ∃ r', (Instr.findKey kt k' es').run P w = .ok r' w ∧ RelE e r r' := by
  obtain ⟨ra, ha1, ha2⟩ := findAsk_sound hT hR hk hes hr
  unfold keyOk at hok
  split at hok
  · split at hok
    · rename_i kk hu
      obtain ⟨r', h1, h2⟩ := findNow_sound hu (.inl ⟨kk, rfl⟩) hk hes hr
      exact ⟨r', by simp [Instr.findKey, run_und hT hu, h1], h2⟩
    · cases hok
  · split at hok
    · rename_i hu
      obtain ⟨r', h1, h2⟩ := findNow_sound hu (.inr rfl) hk hes hr
      exact ⟨r', by simp [Instr.findKey, run_und hT hu, h1], h2⟩
    · cases hok
  · split at hok
    · rename_i fs hu
      cases hes with
      | nil =>
        cases hr
        exact ⟨none, by simp [Instr.findKey, run_und hT hu, Instr.findNow], trivial⟩
      | cons hk1 hv1 ht =>
        refine ⟨ra, ?_, ha2⟩
        have : ∀ y, Instr.sameNow (.struct fs) k' y = none := fun y => by cases k' <;> cases y <;> rfl
        simp [Instr.findKey, run_und hT hu, Instr.findNow, this, ha1]
    · cases hok
  · cases hok
theorem run_checkFields (hT : TabOk P T) (emp : Bool) (d : Nat) (w : World) {cs : List Value} {cs' : Array Value} (hc : VL e cs cs'.toList) : ∀ (fs : List Field), fs.all (fun f => keyField T f && (lget cs f.offset).isSome) = true →
    (forIn fs PUnit.unit (fun (f : Field) _ => do
      if f.name ≠ "_" then Instr.checkKey emp (d + 1) f.type (← part f.type cs' f.offset)
      pure (ForInStep.yield PUnit.unit)) : Sem PUnit).run P w = .ok PUnit.unit w
  | [], _ => by simp
  | f :: fs, hall => by
    simp only [List.all_cons, Bool.and_eq_true] at hall
    have ih := run_checkFields hT emp d w hc fs hall.2
    obtain ⟨v, hv⟩ := Option.isSome_iff_exists.1 hall.1.2
    rw [lget_eq] at hv
    obtain ⟨v', hv', _⟩ := hc.get _ _ hv
    rw [Array.getElem?_toList] at hv'
    have hkf := hall.1.1
    have hrun : (part f.type cs' f.offset).run P w = .ok v' w ∧ (Instr.checkKey emp (d + 1) f.type v').run P w = .ok () w := by
      unfold keyField at hkf
      split at hkf
      · rename_i kk hu
        exact ⟨run_part1 hT hu rfl hv' w, by simp [Instr.checkKey, run_und hT hu]⟩
      · rename_i hu
        exact ⟨run_part1 hT hu rfl hv' w, by simp [Instr.checkKey, run_und hT hu]⟩
      · rename_i el hu
        exact ⟨run_part1 hT hu rfl hv' w, by simp [Instr.checkKey, run_und hT hu]⟩
      · cases hkf
    simp only [List.forIn_cons]
    by_cases hn : f.name ≠ "_"
    · simp only [hn, if_true, ne_eq, not_false_eq_true, Sem.run_bind, hrun.1, hrun.2, Result.andThen_ok, Sem.run_pure, ih]
    · simp only [hn, if_false, Sem.run_bind, Result.andThen_ok, Sem.run_pure, ih]
theorem checkKey_sound (hT : TabOk P T) {kt : TypeId} {k k' : Value} (hk : VR e k k') (hok : keyOk T kt k = true) (emp : Bool) (w : World) : (Instr.checkKey emp 10000 kt k').run P w = .ok () w := by
  unfold keyOk at hok
  split at hok
  · rename_i j q
    split at hok
    · rename_i kk hu
      rw [hk.int]
      have : ∀ d, (Instr.checkKey emp (d + 1) kt (.int j q)).run P w = .ok () w := fun d => by simp [Instr.checkKey, run_und hT hu]
      exact this 9999
    · cases hok
  · rename_i q
    split at hok
    · rename_i hu
      rw [hk.string]
      have : ∀ d, (Instr.checkKey emp (d + 1) kt (.string q)).run P w = .ok () w := fun d => by simp [Instr.checkKey, run_und hT hu]
      exact this 9999
    · cases hok
  · rename_i cs
    split at hok
    · rename_i fs hu
      rw [Bool.and_eq_true] at hok
      obtain ⟨cs', rfl, hcs⟩ := hk.aggI
      have : ∀ d, (Instr.checkKey emp (d + 2) kt (.agg cs')).run P w = .ok () w := fun d => by
        have h1 := run_checkFields hT emp d w hcs fs.toList hok.2
        rw [Instr.checkKey]
        simp only [Sem.run_bind, run_und hT hu, Result.andThen_ok]
        rw [← Array.forIn_toList]
        exact Eq.trans (congrArg (fun (r : Result PUnit) => r.andThen fun _ w' => Sem.run P (pure ()) w') h1) rfl
      exact this 9998
    · cases hok
  · cases hok
theorem clookup_sound (hT : TabOk P T) (hR : R B0 w0 e h w) {t : TypeId} {m m' k k' v : Value} {ok : Bool} (hm : VR e m m') (hk : VR e k k') (hv : clookup T h t m k ok = some v) :
    ∃ v', (Instr.lookup t m' k' ok).run P w = .ok v' w ∧ VR e v v' := by
  unfold clookup at hv
  split at hv
  · rename_i kt et hu
    obtain ⟨hok, h1⟩ := ocond hv
    obtain ⟨es, h2, h3⟩ := obind h1
    obtain ⟨r, h4, h5⟩ := obind h3
    rcases mapOf_sound hR hm h2 with ⟨rfl, rfl⟩ | ⟨rr, es', c, rfl, hw, hl⟩
    · obtain ⟨r', h6, h7⟩ := findKey_sound hT hR hk hok .nil h4
      have hck := checkKey_sound hT hk hok true w
      cases h4
      cases r' with
      | some p' => exact h7.elim
      | none =>
        obtain ⟨z, hz, rfl⟩ := omap h5
        obtain ⟨i, hi, hz1⟩ := obind hz
        obtain ⟨z0, hz2, hz3⟩ := obind hz1
        obtain ⟨hfl, hz4⟩ := ocond hz3
        cases hz4
        exact ⟨_, by simp [Instr.lookup, run_und hT hu, hck, h6, run_zero hT hi hz2], okPair_VR (VR.flat1 hfl)⟩
    · obtain ⟨r', h6, h7⟩ := findKey_sound hT hR hk hok hl h4
      have hck := checkKey_sound hT hk hok es'.isEmpty w
      have hgo := getObj_map (P := P) hw
      cases r with
      | some p =>
        cases h5
        cases r' with
        | none => exact h7.elim
        | some p' => exact ⟨_, by simp [Instr.lookup, run_und hT hu, hgo, hck, h6], okPair_VR h7.2⟩
      | none =>
        cases r' with
        | some p' => exact h7.elim
        | none =>
          obtain ⟨z, hz, rfl⟩ := omap h5
          obtain ⟨i, hi, hz1⟩ := obind hz
          obtain ⟨z0, hz2, hz3⟩ := obind hz1
          obtain ⟨hfl, hz4⟩ := ocond hz3
          cases hz4
          exact ⟨_, by simp [Instr.lookup, run_und hT hu, hgo, hck, h6, run_zero hT hi hz2], okPair_VR (VR.flat1 hfl)⟩
  · cases hv
end
end Go.Cx
set_option linter.unusedSimpArgs false
set_option linter.unusedVariables false
namespace Go.Cx
open Go.RowKit (Below)
section
variable {P : Program} {T : Tab} {B0 : Nat} {w0 w : World} {e : Env} {h : CH}
def intV : Value → Int
  | .int _ q => q
  | _ => 0
theorem allU8 : ∀ {l : List Value}, l.all isU8 = true → l = (l.map intV).map (Value.int .u8)
  | [], _ => rfl
  | v :: l, hl => by
    simp only [List.all_cons, Bool.and_eq_true] at hl
    have ih := allU8 hl.2
    have hv : v = .int .u8 (intV v) := by
      have h1 := hl.1
      unfold isU8 at h1
      split at h1
      · rfl
      · cases h1
    rw [List.map_cons, List.map_cons, ← hv, ← ih]
theorem VL.ints : ∀ {xs : List Int} {l : List Value}, VL e (xs.map (Value.int .u8)) l → l = xs.map (Value.int .u8)
  | [], _, .nil => rfl
  | x :: xs, _, .cons hv ht => by rw [List.map_cons, hv.int, VL.ints ht]
theorem bytesV (xs : List Int) : (⟨((xs.map (Value.int .u8)).map byteV).toArray⟩ : ByteArray) = strOfNums xs := by
  unfold strOfNums
  rw [List.map_map]
  rfl
theorem cconvS_sound (hT : TabOk P T) (hR : R B0 w0 e h w) {s d el : TypeId} {a : Option Addr} {n c : Nat} {x' v : Value} (hs : T.und s = some (.slice el)) (hd : T.und d = some .string) (hx : VR e (.slice a n c) x') (hv : cconvS T h el a n = some v) :
    (convert s d x').run P w = .ok v w ∧ scal v = true := by
  obtain ⟨h1, h2⟩ := ocond hv
  obtain ⟨l, h3, h4⟩ := obind h2
  obtain ⟨h5, h6⟩ := ocond h4
  cases h6
  have hel : T.und el = some (.int .u8) := by
    unfold isU8D at h1
    split at h1
    · assumption
    · cases h1
  refine ⟨?_, rfl⟩
  have hl := allU8 h5
  rw [hl, bytesV]
  unfold cbytes at h3
  split at h3
  · cases h3
    rw [hx.snil]
    exact run_convert_bytes_nil w s el (und_some hT hs) (und_some hT hel) n c d (und_some hT hd)
  · rename_i b o
    obtain ⟨cs, h7, h8⟩ := obind h3
    have main : ∀ r sh K c', e b = some (r, sh, K) → (convert s d (.slice (some ⟨r, sh + o, none⟩) n c')).run P w = .ok (.string (strOfNums (l.map intV))) w := by
      intro r sh K c' he
      obtain ⟨l', hvl, hlen, hc⟩ := row_sub hR h7 he h8
      rw [hl] at hvl
      have hl' := VL.ints hvl
      refine run_convert_bytes_arg w s el (und_some hT hs) (und_some hT hel) r (sh + o) n c' (l.map intV) (by simpa using hlen) (fun i hi => ?_) d (und_some hT hd)
      refine hc i _ ?_
      rw [hl', List.getElem?_map]
      simp [List.getElem?_eq_getElem (show i < (l.map intV).length by simpa [hlen] using hi), List.getD_eq_getElem?_getD]
    obtain ⟨r, sh, K, he, hcase⟩ := hx.sliceI
    rcases hcase with ⟨_, rfl⟩ | ⟨s', c', _, rfl, _⟩ | ⟨ra, oa, _, hl0, rfl⟩
    · exact main r sh K _ he
    · exact main r sh K _ he
    · subst hl0
      have h9 := (lsub_some _ _ _ _ h8).2
      have : l = [] := by simpa using h9
      subst this
      have hl0 : (loadCells ra 0).run P w = .ok (([] : List Int).map (Value.int .u8)).toArray w := by
        have := run_loadCells_list (P := P) w ra ([] : List Value) (fun j v hj => by simp at hj)
        simpa using this
      rw [run_convert_bytes_string w s d _ _ 0 0 (und_some hT hs) (und_some hT hel) (und_some hT hd), run_bytesToString w _ 0 0 [] hl0, foldl_push_bytes]
      rfl
  · cases h3
theorem cconv_sound (hT : TabOk P T) (hR : R B0 w0 e h w) {s d : TypeId} {x x' v : Value} (hx : VR e x x') (hv : cconv T h s d x = some v) : (convert s d x').run P w = .ok v w ∧ scal v = true := by
  obtain ⟨ds, hds, h1⟩ := obind hv
  obtain ⟨dd, hdd, h2⟩ := obind h1
  split at h2
  · rename_i k n
    split at h2
    · rename_i k2
      cases h2
      rw [hx.int]
      exact ⟨by simp [convert, run_und hT hds, run_und hT hdd, Conv.intToInt], rfl⟩
    · cases h2
  · rename_i b
    split at h2
    · cases h2
      rw [hx.string]
      exact ⟨by simp [convert, run_und hT hds, run_und hT hdd], rfl⟩
    · cases h2
  · split at h2
    · exact cconvS_sound hT hR hds hdd hx h2
    · cases h2
  · cases h2
theorem EL.size {l : List MapEntry} {a : Array MapEntry} (hl : EL e l a.toList) : a.size = l.length := by rw [hl.length, Array.length_toList]
theorem clen_sound (hT : TabOk P T) (hR : R B0 w0 e h w) {t : TypeId} {x x' v : Value} (hx : VR e x x') (hv : clen T h t x = some v) {ts : Array TypeId} {args : Array Value} (ht : ts[0]? = some t) (ha : args[0]? = some x') (ty : TypeId) :
    (Builtin.len_ ts ty args).run P w = .ok v w ∧ scal v = true := by
  obtain ⟨d, hd, h1⟩ := obind hv
  split at h1
  · cases h1
    rw [hx.string] at ha
    exact ⟨by simp [Builtin.len_, ht, ha, run_und hT hd, goInt], rfl⟩
  · rename_i el a n c
    cases h1
    have : ∃ a' c', x' = .slice a' n c' := by
      cases hx with
      | flat hf => exact ⟨_, _, rfl⟩
      | slice _ _ => exact ⟨_, _, rfl⟩
      | sliceU _ _ _ => exact ⟨_, _, rfl⟩
      | sliceE _ _ => exact ⟨_, _, rfl⟩
    obtain ⟨a', c', rfl⟩ := this
    exact ⟨by simp [Builtin.len_, ht, ha, run_und hT hd, goInt], rfl⟩
  · obtain ⟨es, h2, rfl⟩ := omap h1
    refine ⟨?_, rfl⟩
    rcases mapOf_sound hR hx h2 with ⟨rfl, rfl⟩ | ⟨r, es', c, rfl, hw, hl⟩
    · simp [Builtin.len_, ht, ha, run_und hT hd, goInt]
    · simp [Builtin.len_, ht, ha, run_und hT hd, goInt, getObj_map hw, hl.size]
  · cases h1
theorem ccap_sound (hT : TabOk P T) {t : TypeId} {x x' v : Value} (hx : VR e x x') (hv : ccap T t x = some v) {ts : Array TypeId} {args : Array Value} (ht : ts[0]? = some t) (ha : args[0]? = some x') (ty : TypeId) (w : World) :
    (Builtin.cap_ ts ty args).run P w = .ok v w ∧ scal v = true := by
  obtain ⟨d, hd, h1⟩ := obind hv
  split at h1
  · rename_i el a n c
    obtain ⟨h2, h3⟩ := ocond' h1
    have h2 := (nble_ff _ _).1 h2
    cases h3
    have : ∃ a', x' = .slice a' n c := by
      cases hx with
      | flat hf => exact ⟨_, rfl⟩
      | slice _ _ => exact ⟨_, rfl⟩
      | sliceU _ _ _ => omega
      | sliceE _ hc =>
        rcases hc with rfl | hc
        · exact ⟨_, rfl⟩
        · omega
    obtain ⟨a', rfl⟩ := this
    exact ⟨by simp [Builtin.cap_, ht, ha, run_und hT hd, goInt], rfl⟩
  · cases h1
theorem VL.two {x y : Value} {l : List Value} (hl : VL e [x, y] l) : ∃ x' y', l = [x', y'] ∧ VR e x x' ∧ VR e y y' := by
  cases hl with
  | cons hx ht =>
    cases ht with
    | cons hy hn =>
      cases hn
      exact ⟨_, _, rfl, hx, hy⟩
theorem cminmax_some {mx : Bool} {x y v : Value} (hv : cminmax mx x y = some v) : ∃ k a j b, x = .int k a ∧ y = .int j b ∧ v = .int k (cond mx (if b > a then b else a) (if b < a then b else a)) := by
  unfold cminmax at hv
  split at hv
  · cases hv; exact ⟨_, _, _, _, rfl, rfl, rfl⟩
  · cases hv
theorem cblt_sound (hT : TabOk P T) (hR : R B0 w0 e h w) {b : Builtin} {ts : Array TypeId} {args : List Value} {args' : Array Value} {v : Value} (ha : VL e args args'.toList) (hv : cblt T h b ts.toList args = some v) (ty : TypeId) (cs : Array Bool) :
    (builtin b ts ty cs args').run P w = .ok (.value v) w ∧ scal v = true := by
  have hd : ∀ {x : Value}, args.head? = some x → ∃ x', args'[0]? = some x' ∧ VR e x x' := by
    intro x hx
    have : args[0]? = some x := by simpa [List.head?_eq_getElem?] using hx
    obtain ⟨x', h1, h2⟩ := ha.get _ _ this
    rw [Array.getElem?_toList] at h1
    exact ⟨x', h1, h2⟩
  have hts : ∀ {t : TypeId}, ts.toList.head? = some t → ts[0]? = some t := by
    intro t ht
    rw [List.head?_eq_getElem?, Array.getElem?_toList] at ht
    exact ht
  unfold cblt at hv
  split at hv
  · obtain ⟨t, h1, h2⟩ := obind hv
    obtain ⟨x, h3, h4⟩ := obind h2
    obtain ⟨x', h5, h6⟩ := hd h3
    obtain ⟨h7, h8⟩ := clen_sound hT hR h6 h4 (hts h1) h5 ty
    exact ⟨by simp [builtin, h7], h8⟩
  · obtain ⟨t, h1, h2⟩ := obind hv
    obtain ⟨x, h3, h4⟩ := obind h2
    obtain ⟨x', h5, h6⟩ := hd h3
    obtain ⟨h7, h8⟩ := ccap_sound hT h6 h4 (hts h1) h5 ty w
    exact ⟨by simp [builtin, h7], h8⟩
  · split at hv
    · obtain ⟨k, a, j, c, rfl, rfl, rfl⟩ := cminmax_some hv
      obtain ⟨x', y', h1, h2, h3⟩ := ha.two
      rw [h2.int, h3.int] at h1
      exact ⟨by simp [builtin, Builtin.min_, h1, Builtin.min2], rfl⟩
    · cases hv
  · split at hv
    · obtain ⟨k, a, j, c, rfl, rfl, rfl⟩ := cminmax_some hv
      obtain ⟨x', y', h1, h2, h3⟩ := ha.two
      rw [h2.int, h3.int] at h1
      exact ⟨by simp [builtin, Builtin.max_, h1, Builtin.max2], rfl⟩
    · cases hv
  · cases hv
theorem run_builtinCall {ρ : Operand → Value} {o : Oper} {c : Call} {b : Builtin} (ho : o.op = .call c) (hc : c.callee = .builtin b) (w : World) :
    ∃ cs, (execOp ρ o).run P w = (builtin b c.argTypes o.type cs (c.args.map ρ)).run P w := by
  refine ⟨c.args.map fun | .const _ => true | _ => false, ?_⟩
  simp only [execOp, ho, resolve, hc, invoke, Sem.run_bind, Sem.run_pure, Result.andThen_ok]
  rfl
theorem cfl_sound (hT : TabOk P T) (hR : R B0 w0 e h w) {n : Nat} {tm : PT Value} {a : Act} (ht : TR e n tm a.tmps) {o : Oper} {v : Value} (hv : cfl T tm h o = some v) :
    ∃ v', (execOp a.eval o).run P w = .ok (.value v') w ∧ VR e v v' := by
  unfold cfl at hv
  split at hv
  · rename_i x ho; exact ⟨_, by simp [execOp, ho], ev_sound ht hv⟩
  · rename_i x ho; exact ⟨_, by simp [execOp, ho], ev_sound ht hv⟩
  · rename_i c x y ho
    obtain ⟨c', h1, h2⟩ := obind hv
    obtain ⟨b, h3, h4⟩ := cpick_sound ht (ev_sound ht h1) h2
    exact ⟨_, by simp [execOp, ho, h3, asBool], h4⟩
  · rename_i t parts ho
    obtain ⟨v', h1, h2⟩ := cbuild_sound hT ht hv w
    exact ⟨v', by simp [execOp, ho, h1], h2⟩
  · rename_i t x ho
    obtain ⟨x', h1, h2⟩ := obind hv
    obtain ⟨v', h3, h4⟩ := cload_sound hT hR (ev_sound ht h1) h2
    exact ⟨v', by simp [execOp, ho, h3], h4⟩
  · rename_i x ho
    obtain ⟨x', h1, h2⟩ := obind hv
    have hr := ev_sound ht h1
    unfold cnil at h2
    split at h2
    · rename_i q
      cases h2
      generalize hz : a.eval x = z at hr
      cases hr with
      | flat hf => simp [flat] at hf
      | ptr he => exact ⟨_, by simp [execOp, ho, hz], .ptr he⟩
    · cases h2
      generalize hz : a.eval x = z at hr
      obtain ⟨a', b', rfl, h3, h4⟩ := hr.funcI
      exact ⟨_, by simp [execOp, ho, hz], .func h3 h4⟩
    · cases h2
  · rename_i op t x y _ ho
    obtain ⟨x', h1, h2⟩ := obind hv
    obtain ⟨y', h3, h4⟩ := obind h2
    obtain ⟨h5, h6⟩ := cbin_sound hT hR (ev_sound ht h1) (ev_sound ht h3) h4
    refine ⟨v, ?_, scalR h6⟩
    simp only [execOp, ho]
    rw [Sem.run_bind, h5]
    rfl
  · rename_i op _ x ho
    obtain ⟨x', h1, h2⟩ := obind hv
    obtain ⟨h3, h4⟩ := cun_sound (ev_sound ht h1) h2
    exact ⟨v, by simp [execOp, ho, h3], scalR h4⟩
  · rename_i s d x ho
    obtain ⟨x', h1, h2⟩ := obind hv
    obtain ⟨h3, h4⟩ := cconv_sound hT hR (ev_sound ht h1) h2
    exact ⟨v, by simp [execOp, ho, h3], scalR h4⟩
  · rename_i t x ho
    obtain ⟨x', h1, h2⟩ := obind hv
    obtain ⟨v', h3, h4⟩ := cmkI_sound hT (ev_sound ht h1) h2 w
    exact ⟨v', by simp [execOp, ho, h3], h4⟩
  · rename_i fn first cap ho
    unfold cmkF at hv
    split at hv
    · rename_i f
      obtain ⟨x, h1, h2⟩ := obind hv
      obtain ⟨y, h3, rfl⟩ := omap h2
      exact ⟨.func (.func f) (first.map a.eval) (cap.map a.eval), by simp [execOp, ho, Instr.makeFunc], .func (by simpa using evs_sound ht h1) (by simpa using evs_sound ht h3)⟩
    · cases hv
  · rename_i t x lo hi mx ho
    obtain ⟨x', h1, h2⟩ := obind hv
    obtain ⟨v', h3, h4⟩ := cslice_sound hT ht (ev_sound ht h1) h2 w
    exact ⟨v', by simp [execOp, ho, h3], h4⟩
  · rename_i s x f ho
    obtain ⟨x', h1, h2⟩ := obind hv
    obtain ⟨v', h3, h4⟩ := cfieldAddr_sound hT (ev_sound ht h1) h2 w
    exact ⟨v', by simp [execOp, ho, h3], h4⟩
  · rename_i s x f ho
    obtain ⟨x', h1, h2⟩ := obind hv
    obtain ⟨v', h3, h4⟩ := cfield_sound hT (ev_sound ht h1) h2 w
    exact ⟨v', by simp [execOp, ho, h3], h4⟩
  · rename_i t x ix ho
    obtain ⟨x', h1, h2⟩ := obind hv
    obtain ⟨i', h3, h4⟩ := obind h2
    obtain ⟨v', h5, h6⟩ := cindexAddr_sound hT (ev_sound ht h1) (ev_sound ht h3) h4 w
    exact ⟨v', by simp [execOp, ho, h5], h6⟩
  · rename_i t x ix ho
    obtain ⟨x', h1, h2⟩ := obind hv
    obtain ⟨i', h3, h4⟩ := obind h2
    obtain ⟨h5, h6⟩ := cindex_sound hT (ev_sound ht h1) (ev_sound ht h3) h4 w
    exact ⟨v, by simp [execOp, ho, h5], scalR h6⟩
  · rename_i t m k ok ho
    obtain ⟨m', h1, h2⟩ := obind hv
    obtain ⟨k', h3, h4⟩ := obind h2
    obtain ⟨v', h5, h6⟩ := clookup_sound hT hR (ev_sound ht h1) (ev_sound ht h3) h4
    exact ⟨v', by simp [execOp, ho, h5], h6⟩
  · rename_i x i ho
    obtain ⟨x', h1, h2⟩ := obind hv
    obtain ⟨v', h3, h4⟩ := cextract_sound (P := P) (ev_sound ht h1) h2 w
    exact ⟨v', by simp [execOp, ho, h3], h4⟩
  · rename_i x xt t ok ho
    obtain ⟨x', h1, h2⟩ := obind hv
    obtain ⟨v', h3, h4⟩ := cassert_sound (xt := xt) hT (ev_sound ht h1) h2 w
    exact ⟨v', by simp [execOp, ho, h3], h4⟩
  · rename_i c ho
    split at hv
    · rename_i b hc
      obtain ⟨args, h1, h2⟩ := obind hv
      have hargs := evs_sound ht h1
      obtain ⟨cs, hcs⟩ := run_builtinCall (ρ := a.eval) ho hc w
      obtain ⟨h3, h4⟩ := cblt_sound hT hR (args' := c.args.map a.eval) (by simpa using hargs) h2 o.type cs
      exact ⟨v, hcs.trans h3, scalR h4⟩
    · cases hv
  · cases hv
end
end Go.Cx
set_option linter.unusedSimpArgs false
set_option linter.unusedVariables false
namespace Go.Cx
open Go.RowKit (Below)
section
variable {P : Program} {T : Tab} {B0 : Nat} {w0 w : World} {e : Env} {h : CH}
structure But (r : Nat) (w w' : World) : Prop where
  size : w'.heap.size = w.heap.size
  same : ∀ i, i ≠ r → w'.heap[i]? = w.heap[i]?
  os : w'.os = w.os
  tape : w'.tape = w.tape
  output : w'.output = w.output
theorem But.refl (r : Nat) (w : World) : But r w w := ⟨rfl, fun _ _ => rfl, rfl, rfl, rfl⟩
theorem But.trans {r : Nat} {a b c : World} (h : But r a b) (k : But r b c) : But r a c := ⟨k.size.trans h.size, fun i hi => (k.same i hi).trans (h.same i hi), k.os.trans h.os, k.tape.trans h.tape, k.output.trans h.output⟩
theorem But.setCell (w : World) (r o : Nat) (v : Value) : But r w (w.setCell ⟨r, o, none⟩ v) :=
  ⟨by simp [World.setCell], fun i hi => by simp only [World.setCell, Array.getElem?_modify]; rw [if_neg (by omega)], rfl, rfl, rfl⟩
theorem setCell_at {r o : Nat} {v : Value} {real : Array Value} {t : TypeId} {fr : Nat × Nat} (hw : w.heap[r]? = some (.cells real t fr)) :
    (w.setCell ⟨r, o, none⟩ v).heap[r]? = some (.cells (real.setIfInBounds o v) t fr) := by
  simp only [World.setCell, Array.getElem?_modify, if_true, hw, Option.map_some]
  rfl
theorem run_store1 {r o : Nat} {v : Value} {real : Array Value} {t : TypeId} {fr : Nat × Nat} (hw : w.heap[r]? = some (.cells real t fr)) (hf : fr.2 ≤ fr.1) (ho : o < real.size) (hv : v.oneCell' = true) :
    (store ⟨r, o, none⟩ v).run P w = .ok () (w.setCell ⟨r, o, none⟩ v) := by
  rw [run_store P w _ v .plain hv, cell_of hw, Array.getElem?_eq_getElem ho]
  simp [free_at hw hf]
theorem run_storeCells {r o : Nat} {t : TypeId} {fr : Nat × Nat} (hf : fr.2 ≤ fr.1) : ∀ (vs : List Value) (i : Nat) (w : World) (real : Array Value), w.heap[r]? = some (.cells real t fr) → (∀ v, v ∈ vs → v.oneCell' = true) → o + i + vs.length ≤ real.size →
    ∃ w' real', (storeCells ⟨r, o, none⟩ vs i).run P w = .ok () w' ∧ But r w w' ∧ w'.heap[r]? = some (.cells real' t fr) ∧ real'.size = real.size ∧
      ∀ j, real'[j]? = if o + i ≤ j ∧ j < o + i + vs.length then vs[j - (o + i)]? else real[j]?
  | [], i, w, real, hw, _, _ => ⟨w, real, by simp [storeCells], But.refl r w, hw, rfl, fun j => by rw [if_neg (by simp)]⟩
  | v :: vs, i, w, real, hw, hv, hl => by
    simp only [List.length_cons] at hl
    obtain ⟨w', real', h1, h2, h3, h4, h5⟩ := run_storeCells (o := o) hf vs (i + 1) (w.setCell ⟨r, o + i, none⟩ v) (real.setIfInBounds (o + i) v) (setCell_at hw) (fun u hu => hv u (List.mem_cons_of_mem _ hu)) (by simp; omega)
    refine ⟨w', real', ?_, (But.setCell w r (o + i) v).trans h2, h3, by rw [h4]; simp, fun j => ?_⟩
    · simp only [storeCells, Sem.run_bind]
      rw [add_none, run_store1 hw hf (by omega) (hv v List.mem_cons_self), Result.andThen_ok, h1]
    · rw [h5, Array.getElem?_setIfInBounds]
      simp only [List.length_cons]
      by_cases a : o + i = j
      · subst a
        rw [if_neg (by omega), if_pos rfl, if_pos (by omega), if_pos (by omega)]
        simp
      · rw [if_neg a]
        by_cases b : o + (i + 1) ≤ j ∧ j < o + (i + 1) + vs.length
        · rw [if_pos b, if_pos (by omega), show j - (o + i) = (j - (o + (i + 1))) + 1 by omega]
          rfl
        · rw [if_neg b, if_neg (by omega)]
theorem mem_one : ∀ {vs vs' : List Value}, VL e vs vs' → vs.all isOne = true → ∀ v, v ∈ vs' → v.oneCell' = true
  | _, _, .nil, _, _, hm => by cases hm
  | _, _, .cons hr ht, h1, v, hm => by
    simp only [List.all_cons, Bool.and_eq_true] at h1
    cases hm with
    | head => exact hr.one h1.1
    | tail _ hm => exact mem_one ht h1.2 v hm
theorem wrow_some {b : Nat} {r : List Value × Bool} (hr : wrow h b = some r) : h.get b = some (.cells r.1 false r.2) := by
  unfold wrow at hr
  split at hr
  · cases hr; assumption
  · cases hr
theorem wrow_at (hR : R B0 w0 e h w) {b : Nat} {cs : List Value} {fz : Bool} (hb : h.get b = some (.cells cs false fz)) {r sh K : Nat} (he : e b = some (r, sh, K)) :
    ∃ (real : Array Value) (t : TypeId) (fr : Nat × Nat), w.heap[r]? = some (.cells real t fr) ∧ real.size = K ∧ sh + cs.length ≤ K ∧ fz = false ∧ B0 ≤ r ∧ fr.2 ≤ fr.1 ∧ ∀ i v, cs[i]? = some v → ∃ v', real[sh + i]? = some v' ∧ VR e v v' := by
  obtain ⟨r', sh', K', real, t, fr, h1, h2, h3, h4, h5, _, h7, h8⟩ := hR.obj b _ hb
  rw [he] at h1
  cases h1
  obtain ⟨h9, h10⟩ := h7 rfl
  exact ⟨real, t, fr, h2, h3, h4, h9, h10, h8 h9, h5⟩
theorem R.store (hR : R B0 w0 e h w) {b o : Nat} {cs cs2 vs vs' : List Value} {fz : Bool} (hb : h.get b = some (.cells cs false fz)) {r sh K : Nat} (he : e b = some (r, sh, K)) (hv : VL e vs vs') (h1 : vs.all isOne = true) (hsp : lsplice vs cs o = some cs2) :
    ∃ w', (storeCells ⟨r, sh + o, none⟩ vs').run P w = .ok () w' ∧ R B0 w0 e (h.put b (.cells cs2 false fz)) w' := by
  obtain ⟨real, t, fr, hw, hsz, hlen, hfz, hB, hf, hcell⟩ := wrow_at hR hb he
  have hl := (lsplice_some _ _ _ _ hsp).1
  have hvl := hv.length
  obtain ⟨w', real', g1, g2, g3, g4, g5⟩ := run_storeCells (P := P) (o := sh + o) hf vs' 0 w real hw (mem_one hv h1) (by omega)
  refine ⟨w', g1, hR.update hb rfl he g2.size g2.same g2.os g2.tape g2.output ?_⟩
  refine ⟨r, sh, K, real', t, fr, he, g3, by omega, by rw [lsplice_length hsp]; exact hlen, ?_, (fun hh => by cases hh), fun _ => ⟨hfz, hB⟩, fun _ => hf⟩
  intro i v hi
  rw [lsplice_get hsp] at hi
  rw [g5]
  by_cases hc : o ≤ i ∧ i < o + vs.length
  · rw [if_pos hc] at hi
    rw [if_pos (by omega), show sh + i - (sh + o + 0) = i - o by omega]
    exact hv.get _ _ hi
  · rw [if_neg hc] at hi
    rw [if_neg (by omega)]
    exact hcell i v hi
theorem R.newRow (hR : R B0 w0 e h w) {cs : List Value} {real : Array Value} (hc : VL e cs real.toList) (t : TypeId) :
    R B0 w0 (upd e h.n (w.heap.size, 0, real.size)) (h.push (.cells cs false false)) { w with heap := w.heap.push (.cells real t (0, 0)) } := by
  have hl : cs.length = real.size := hc.length.trans Array.length_toList
  refine hR.push (.cells real t (0, 0)) _ 0 real.size rfl rfl rfl rfl ?_
  refine ⟨w.heap.size, 0, real.size, real, t, (0, 0), upd_same _ _ _, by simp, rfl, by omega, ?_, (fun hh => by cases hh), fun _ => ⟨rfl, hR.size⟩, fun _ => Nat.le_refl _⟩
  intro i v hi
  obtain ⟨v', h1, h2⟩ := hc.get _ _ hi
  rw [Array.getElem?_toList] at h1
  exact ⟨v', by rw [Nat.zero_add]; exact h1, h2.mono (hR.ext _)⟩
def COutR (P : Program) (B0 : Nat) (w0 : World) (e : Env) (w : World) (s : Sem Next) : COut → Prop
  | .val v h1 => ∃ e1 w1, Ext e e1 ∧ R B0 w0 e1 h1 w1 ∧ ((∃ v', s.run P w = .ok (.value v') w1 ∧ VR e1 v v') ∨ (s.run P w = .ok .skip w1 ∧ v = undefV))
  | .call (.fn f args) => ∃ args' : Array Value, s.run P w = .ok (.enter f args') w ∧ VL e args args'.toList
  | .call (.round l f n tm as bd) => ∃ (l' : Nat) (x : Nat × Nat) (tmps' : Array Value), s.run P w = .ok (.round l' f tmps' as bd) w ∧ e l = some (l', x) ∧ TR e n tm tmps'
  | .defer d => ∃ d', s.run P w = .ok (.defer d') w ∧ DR e d d'
  | .recover => s.run P w = .ok .recover w
  | .panic v => ∃ v', s.run P w = .halt (.panic v') w ∧ VR e v v'
  | .bad => True
theorem COutR.bind {α : Type} {s : Sem Next} {x : Option α} {f : α → COut} (hx : ∀ a, x = some a → COutR P B0 w0 e w s (f a)) : COutR P B0 w0 e w s (COut.of x f) := by
  cases x with
  | none => trivial
  | some a => exact hx a rfl
theorem COutR.cond {s : Sem Next} {b : Bool} {x : COut} (hx : b = true → COutR P B0 w0 e w s x) : COutR P B0 w0 e w s (cond b x .bad) := by
  cases b
  · trivial
  · exact hx rfl
theorem newRow_out (hR : R B0 w0 e h w) {cs : List Value} {real : Array Value} (hc : VL e cs real.toList) (t : TypeId) {s : Sem Next}
    (hs : s.run P w = .ok (.value (.pointer (some ⟨w.heap.size, 0, none⟩))) { w with heap := w.heap.push (.cells real t (0, 0)) }) :
    COutR P B0 w0 e w s (hnew h (.cells cs false false) fun b => .pointer (some ⟨b, 0, none⟩)) :=
  ⟨_, _, hR.ext _, hR.newRow hc t, .inl ⟨_, hs, by have := VR.ptr (e := upd e h.n (w.heap.size, 0, real.size)) (o := 0) (upd_same e h.n (w.heap.size, 0, real.size)); simpa using this⟩⟩
theorem alloc_sound (hT : TabOk P T) (hR : R B0 w0 e h w) {ρ : Operand → Value} {o : Oper} {el : TypeId} (ho : o.op = .alloc el) :
    COutR P B0 w0 e w (execOp ρ o) (COut.of (zeroCellsOf T el) fun z => hnew h (.cells z false false) fun b => .pointer (some ⟨b, 0, none⟩)) := by
  refine COutR.bind fun z hz => ?_
  obtain ⟨i, v, hi, hz0, hfl, rfl⟩ := zeroCells_some hz
  refine newRow_out hR (VR.flat1 (e := e) hfl).cells el ?_
  simp [execOp, ho, Instr.alloc, run_zero hT hi hz0, newVar, newRow]
theorem box_sound (hR : R B0 w0 e h w) {ρ : Operand → Value} {o : Oper} {el : TypeId} {x : Operand} (ho : o.op = .box el x) {v : Value} (hv : VR e v (ρ x)) : COutR P B0 w0 e w (execOp ρ o) (cbox h v) := by
  refine COutR.cond fun _ => newRow_out hR hv.cells el ?_
  simp [execOp, ho, Instr.box, newVar, newRow]
theorem cstore_sound (hT : TabOk P T) (hR : R B0 w0 e h w) {ρ : Operand → Value} {o : Oper} {t : TypeId} {ao xo : Operand} (ho : o.op = .store t ao xo) {x v : Value} (hx : VR e x (ρ ao)) (hv : VR e v (ρ xo)) :
    COutR P B0 w0 e w (execOp ρ o) (cstore T h t x v) := by
  refine COutR.bind fun p hp => COutR.bind fun s hs => COutR.bind fun r hr => COutR.cond fun hc => COutR.bind fun cs hcs => ?_
  rw [Bool.and_eq_true] at hc
  rw [ptrOf_some hp] at hx
  generalize hz : ρ ao = z at hx
  obtain ⟨r', sh, K, he, rfl⟩ := hx.ptrI
  obtain ⟨w', h1, h2⟩ := hR.store (P := P) (wrow_some hr) he hv.cells hc.2 hcs
  refine ⟨e, w', Ext.refl e, h2, .inr ⟨?_, rfl⟩⟩
  have hsz : (ρ xo).cells.size = s := by
    have := (nbeq _ _).1 hc.1
    rw [← this, hv.cells.length, Array.length_toList]
  simp [execOp, ho, hz, Instr.storeAt, Instr.sureAddr, storeVar, run_size hT hs, hsz, h1]
theorem cmakeMap_sound (hT : TabOk P T) (hR : R B0 w0 e h w) {n : Nat} {tm : PT Value} {a : Act} (ht : TR e n tm a.tmps) {o : Oper} {t : TypeId} {r : Option Operand} (ho : o.op = .makeMap t r) : COutR P B0 w0 e w (execOp a.eval o) (cmakeMap T tm h t r) := by
  have key : ∀ {s : Sem Next}, s.run P w = .ok (.value (.map (some w.heap.size))) { w with heap := w.heap.push (.map #[] 0) } → COutR P B0 w0 e w s (hnew h (.map [] 0) fun b => .map (some b)) := by
    intro s hs
    refine ⟨upd e h.n (w.heap.size, 0, 0), { w with heap := w.heap.push (.map #[] 0) }, hR.ext _, hR.push (.map #[] 0) _ 0 0 rfl rfl rfl rfl ?_, .inl ⟨_, hs, .map (upd_same _ _ _)⟩⟩
    exact ⟨w.heap.size, #[], upd_same _ _ _, by simp, hR.size, .nil⟩
  unfold cmakeMap
  split
  · exact key (by simp [execOp, ho, Instr.makeMap, newObj, Sem.run])
  · rename_i r
    refine COutR.bind fun q hq => ?_
    obtain ⟨v, hv, hq2⟩ := obind hq
    obtain ⟨k, rfl⟩ := natOf_some hq2
    have hev := (ev_sound ht hv).int
    split
    · rename_i hu
      exact key (by simp [execOp, ho, Instr.makeMap, run_und hT hu, hev, asInt, asIntOf])
    · trivial
theorem crange_sound (hT : TabOk P T) (hR : R B0 w0 e h w) {ρ : Operand → Value} {o : Oper} {t : TypeId} {x : Operand} (ho : o.op = .range t x) {v : Value} (hv : VR e v (ρ x)) : COutR P B0 w0 e w (execOp ρ o) (crange T h t v) := by
  unfold crange
  split
  · rename_i s
    split
    · rename_i hu
      have hev := hv.string
      refine ⟨upd e h.n (w.heap.size, 0, 0), { w with heap := w.heap.push (.stringIter s 0) }, hR.ext _, hR.push (.stringIter s 0) _ 0 0 rfl rfl rfl rfl ?_, .inl ⟨.pointer (some ⟨w.heap.size, 0, none⟩), ?_, ?_⟩⟩
      · exact ⟨w.heap.size, upd_same _ _ _, by simp, hR.size⟩
      · simp [execOp, ho, hev, Instr.range, run_und hT hu]
      · have := VR.ptr (e := upd e h.n (w.heap.size, 0, 0)) (o := 0) (upd_same e h.n (w.heap.size, 0, 0)); simpa using this
    · trivial
  · trivial
theorem getObj_run {r : Nat} {q : Obj} (hw : w.heap[r]? = some q) (hq : ∀ c t fr, q ≠ .cells c t fr) : (getObj r).run P w = .ok q w := by
  cases q <;> first | exact absurd rfl (hq _ _ _) | simp [getObj, Sem.run, hw]
theorem setObj_run {r : Nat} {q q' : Obj} (hw : w.heap[r]? = some q) (hq : ∀ c t fr, q ≠ .cells c t fr) : (setObj r q').run P w = .ok () { w with heap := w.heap.setIfInBounds r q' } := by
  cases q <;> first | exact absurd rfl (hq _ _ _) | simp [setObj, Sem.run, hw]
theorem But.setObj (w : World) (r : Nat) (q : Obj) : But r w { w with heap := w.heap.setIfInBounds r q } :=
  ⟨by simp, fun i hi => by simp only [Array.getElem?_setIfInBounds]; rw [if_neg (by omega)], rfl, rfl, rfl⟩
theorem setObj_at {r : Nat} {q q' : Obj} (hw : w.heap[r]? = some q) : ({ w with heap := w.heap.setIfInBounds r q' } : World).heap[r]? = some q' := by
  have := (Array.getElem?_eq_some_iff.1 hw).1
  simp only [Array.getElem?_setIfInBounds, if_true]
  rw [if_pos this]
theorem R.setObj (hR : R B0 w0 e h w) {b r : Nat} {x : Nat × Nat} {o o' : CObj} {q : Obj} (q' : Obj) (hb : h.get b = some o) (hwr : wr o = true) (he : e b = some (r, x)) (hw : w.heap[r]? = some q)
    (ho : OR B0 e { w with heap := w.heap.setIfInBounds r q' } b o') : R B0 w0 e (h.put b o') { w with heap := w.heap.setIfInBounds r q' } := by
  have hB := But.setObj w r q'
  exact hR.update hb hwr he hB.size hB.same hB.os hB.tape hB.output ho
theorem decode_ascii' (s : ByteArray) (pos : Nat) (c : UInt8) (hc : s.data.toList[pos]? = some c) (h1 : c.toNat + 1 ≤ 128) : Utf8.decode s pos = (c.toNat, 1) := by
  obtain ⟨hl, hcc⟩ := List.getElem?_eq_some_iff.1 hc
  have hlt : pos < s.size := by simpa using hl
  have hb : s[pos] = c := by rw [← hcc]; rfl
  have := decode_ascii s pos hlt (by rw [hb]; omega)
  rwa [hb] at this
theorem cnext_sound (hR : R B0 w0 e h w) {ρ : Operand → Value} {o : Oper} {s : Bool} {x : Operand} (ho : o.op = .next x s) {v : Value} (hv : VR e v (ρ x)) : COutR P B0 w0 e w (execOp ρ o) (cnext h v s) := by
  refine COutR.cond fun hs => COutR.bind fun p hp => COutR.cond fun h0 => ?_
  subst hs
  have h0 := (nbeq _ _).1 h0
  rw [ptrOf_some hp, h0] at hv
  obtain ⟨r, sh, K, he, hx⟩ := hv.ptrI
  split
  · rename_i str pos hb
    obtain ⟨r', he', hw, hB⟩ := hR.obj _ _ hb
    rw [he] at he'
    cases he'
    have hgo := getObj_run (P := P) hw (by simp)
    split
    · rename_i c hc
      rw [lget_eq] at hc
      have hlt : pos < str.size := by
        have := (List.getElem?_eq_some_iff.1 hc).1
        simpa using this
      rw [cond_eq]
      by_cases h1 : Nat.ble (c.toNat + 1) 128 = true
      · rw [if_pos h1]
        have h1 := (nble _ _).1 h1
        have hdec := decode_ascii' str pos c hc h1
        have hso := setObj_run (P := P) (q' := .stringIter str (pos + 1)) hw (by simp)
        refine ⟨e, { w with heap := w.heap.setIfInBounds r (.stringIter str (pos + 1)) }, Ext.refl e, hR.setObj _ hb rfl he hw ⟨r, he, setObj_at hw, hB⟩, .inl ⟨_, ?_, .tuple (.cons (.flat rfl) (.cons (.flat rfl) (.cons (.flat rfl) .nil)))⟩⟩
        simp [execOp, ho, hx, Instr.next, hgo, hlt, hdec, hso, goInt]
      · rw [if_neg h1]
        have hso := setObj_run (P := P) (q' := .stringIter str (pos + (Utf8.decode str pos).2)) hw (by simp)
        refine ⟨e, { w with heap := w.heap.setIfInBounds r (.stringIter str (pos + (Utf8.decode str pos).2)) }, Ext.refl e, hR.setObj _ hb rfl he hw ⟨r, he, setObj_at hw, hB⟩, .inl ⟨_, ?_, .tuple (.cons (.flat rfl) (.cons (.flat rfl) (.cons (.flat rfl) .nil)))⟩⟩
        simp [execOp, ho, hx, Instr.next, hgo, hlt, hso, goInt]
    · rename_i hc
      rw [lget_eq] at hc
      have hlt : ¬ pos < str.size := by
        have := List.getElem?_eq_none_iff.1 hc
        simp at this
        have h2 : str.size = str.data.size := rfl
        omega
      refine ⟨e, w, Ext.refl e, hR, .inl ⟨_, ?_, .tuple (.cons (.flat rfl) .nil)⟩⟩
      simp [execOp, ho, hx, Instr.next, hgo, hlt]
  · trivial
theorem repeatL_VL {z z' : List Value} (hz : VL e z z') : ∀ n, VL e (repeatL z n) (repeatL z' n)
  | 0 => .nil
  | n + 1 => hz.append (repeatL_VL hz n)
theorem repeatL_length (z : List Value) : ∀ n, (repeatL z n).length = n * z.length
  | 0 => by simp [repeatL]
  | n + 1 => by simp [repeatL, repeatL_length z n, Nat.succ_mul]; omega
theorem repeatL_get (z : List Value) : ∀ (n i : Nat), i < n * z.length → (repeatL z n)[i]? = z[i % z.length]?
  | 0, i, hi => by omega
  | n + 1, i, hi => by
    rw [repeatL]
    by_cases h : i < z.length
    · rw [List.getElem?_append_left h, Nat.mod_eq_of_lt h]
    · have hm : (n + 1) * z.length = n * z.length + z.length := Nat.succ_mul _ _
      rw [List.getElem?_append_right (by omega), repeatL_get z n (i - z.length) (by omega)]
      congr 1
      exact (Nat.mod_eq_sub_mod (by omega)).symm
theorem range_repeat (z : Array Value) (n s : Nat) (hz : z.size = s) : ((Array.range (n * s)).map (fun i => z[i % z.size]!)).toList = repeatL z.toList n := by
  apply List.ext_getElem?
  intro i
  by_cases hi : i < n * s
  · have hs : 0 < s := Nat.pos_of_ne_zero (by rintro rfl; simp at hi)
    rw [repeatL_get z.toList n i (by rw [Array.length_toList, hz]; exact hi)]
    have hm : i % z.size < z.size := Nat.mod_lt _ (by omega)
    simp [hi, getElem!_pos z (i % z.size) hm, Array.getElem?_eq_getElem hm]
  · rw [List.getElem?_eq_none (by simp; omega), List.getElem?_eq_none (by rw [repeatL_length, Array.length_toList, hz]; omega)]
theorem cmakeSlice_sound (hT : TabOk P T) (hR : R B0 w0 e h w) {ρ : Operand → Value} {o : Oper} {t : TypeId} {lo co : Operand} (ho : o.op = .makeSlice t lo co) {l c : Value} (hl : VR e l (ρ lo)) (hc : VR e c (ρ co)) :
    COutR P B0 w0 e w (execOp ρ o) (cmakeSlice T h t l c) := by
  unfold cmakeSlice
  split
  · rename_i el hu
    refine COutR.bind fun ln hln => COutR.bind fun cn hcn => COutR.bind fun i hi => COutR.bind fun z hz => COutR.cond fun hcond => ?_
    simp only [Bool.and_eq_true, nbeq, nble] at hcond
    obtain ⟨⟨⟨⟨h1, h2⟩, h3⟩, h4⟩, h5⟩ := hcond
    obtain ⟨k1, rfl⟩ := natOf_some hln
    obtain ⟨k2, rfl⟩ := natOf_some hcn
    obtain ⟨i', zv, hi', hz0, hfl, rfl⟩ := zeroCells_some hz
    rw [hi] at hi'
    cases hi'
    have hlv := hl.int
    have hcv := hc.int
    have hzs : zv.cells.size = i.size := by rw [← h1, Array.length_toList]
    have hreal : VL e (repeatL zv.cells.toList cn) ((Array.range (cn * i.size)).map (fun j => zv.cells[j % zv.cells.size]!)).toList := by
      rw [range_repeat zv.cells cn i.size hzs]
      exact repeatL_VL (VR.flat1 hfl).cells cn
    have hsize : T.size el = some i.size := by simp [Tab.size, hi]
    have hb : (i.bytes : Int) * (cn : Int) ≤ 281474976710656 := by
      have e1 : (i.bytes : Int) * (cn : Int) = ((i.bytes * cn : Nat) : Int) := (Int.natCast_mul _ _).symm
      rw [e1]
      omega
    have hrun := run_make (P := P) w t el i zv (und_some hT hu) (hT.info _ _ hi) hz0 k1 k2 ln cn (by omega) (by omega) hb (by omega)
    refine ⟨_, _, hR.ext _, hR.newRow hreal el, .inl ⟨.slice (some ⟨w.heap.size, 0, none⟩) ln cn, ?_, ?_⟩⟩
    · simp only [execOp, ho, hlv, hcv, Sem.run_bind, hrun]
      rfl
    · have := VR.slice (e := upd e h.n (w.heap.size, 0, ((Array.range (cn * i.size)).map (fun j => zv.cells[j % zv.cells.size]!)).size)) (o := 0) (l := ln) (c := cn) (upd_same e h.n _) (by unfold unk; omega)
      simpa using this
  · trivial
theorem cbuildSlice_sound (hT : TabOk P T) (hR : R B0 w0 e h w) {n : Nat} {tm : PT Value} {a : Act} (ht : TR e n tm a.tmps) {o : Oper} {t : TypeId} {len : Nat} {parts : Array (Nat × Operand)} (ho : o.op = .buildSlice t len parts) :
    COutR P B0 w0 e w (execOp a.eval o) (cbuildSlice T tm h t len parts.toList) := by
  unfold cbuildSlice
  split
  · rename_i el hu
    refine COutR.bind fun ps hps => COutR.bind fun i hi => COutR.bind fun z hz => COutR.cond fun hcond => COutR.bind fun cs hcs => ?_
    simp only [Bool.and_eq_true, nbeq, nble] at hcond
    obtain ⟨⟨⟨h1, h2⟩, h3⟩, _⟩ := hcond
    obtain ⟨i', zv, hi', hz0, hfl, rfl⟩ := zeroCells_some hz
    rw [hi] at hi'
    cases hi'
    have hzs : zv.cells.size = i.size := by rw [← h1, Array.length_toList]
    have hsize : T.size el = some i.size := by simp [Tab.size, hi]
    have hreal : VL e (repeatL zv.cells.toList len) ((Array.range (len * i.size)).map (fun j => zv.cells[j % zv.cells.size]!)).toList := by
      rw [range_repeat zv.cells len i.size hzs]
      exact repeatL_VL (VR.flat1 hfl).cells len
    obtain ⟨r', h4, h5⟩ := cfill_sound (e := e) (place' := fun j => some (j * i.size, i.size)) (fun _ _ hq => hq) (cparts_sound ht hps) hreal hcs
    have hpl : (parts.map fun (i, x) => (i, a.eval x)).toList = parts.toList.map fun p => (p.1, a.eval p.2) := by simp
    refine ⟨_, _, hR.ext _, hR.newRow h5 el, .inl ⟨.slice (some ⟨w.heap.size, 0, none⟩) len len, ?_, ?_⟩⟩
    · have hno : ¬ (len * i.size > 2 ^ 24) := by omega
      have hb : (Instr.buildSlice t len (parts.map fun (i, x) => (i, a.eval x))).run P w = .ok (.slice (some ⟨w.heap.size, 0, none⟩) len len) { w with heap := w.heap.push (.cells r' el (0, 0)) } := by
        by_cases h0 : len * i.size = 0
        · have hr0 : Array.range 0 = #[] := rfl
          rw [h0] at h4
          simp only [hr0, Array.map_empty] at h4
          simp only [Instr.buildSlice, Sem.run_bind, run_und hT hu, Result.andThen_ok, run_size hT hsize, Sem.run_ite, hno, if_false, h0, if_true, Sem.run_pure, hr0, Array.map_empty, hpl, h4]
          rfl
        · simp only [Instr.buildSlice, Sem.run_bind, run_und hT hu, Result.andThen_ok, run_size hT hsize, Sem.run_ite, hno, if_false, h0, run_zero hT hi hz0, Sem.run_pure, hpl, h4]
          rfl
      simp only [execOp, ho, Sem.run_bind, hb]
      rfl
    · have hlen : len < unk := by
        have : len ≤ len * i.size := Nat.le_mul_of_pos_right _ (by omega)
        unfold unk; omega
      have := VR.slice (e := upd e h.n (w.heap.size, 0, r'.size)) (o := 0) (l := len) (c := len) (upd_same e h.n _) hlen
      simpa using this
  · trivial
theorem growBy_le (n : Nat) : ∀ (c : Nat), c < n → Builtin.growBy n 4 c ≤ 4 * n + 4000 := by
  intro c hc
  simp only [Builtin.growBy]
  repeat' split
  all_goals omega
theorem nsc_le {need cap : Nat} (hc : cap < need) : Builtin.nextslicecap need cap ≤ 4 * need + 4000 := by
  unfold Builtin.nextslicecap
  split
  · omega
  · split
    · omega
    · exact growBy_le need cap hc
theorem isSliceD_some {d : Option TypeDesc} (hd : isSliceD d = true) : ∃ q, d = some (.slice q) := by
  unfold isSliceD at hd
  split at hd
  · exact ⟨_, rfl⟩
  · cases hd
theorem isStrD_some {d : Option TypeDesc} (hd : isStrD d = true) : d = some .string := by
  unfold isStrD at hd
  split at hd
  · rfl
  · cases hd
theorem isIntD_some {d : Option TypeDesc} (hd : isIntD d = true) : ∃ q, d = some (.int q) := by
  unfold isIntD at hd
  split at hd
  · exact ⟨_, rfl⟩
  · cases hd
structure Src (P : Program) (w : World) (ts : Array TypeId) (ty : TypeId) (el : TypeId) (i : TypeInfo) (z : Value) (x' : Value) (n : Nat) (new' : List Value) : Prop where
  fits : ∀ (base : Option Addr) (len cap : Nat), len + n ≤ cap → (4 * (len + n) + 4000) * i.bytes ≤ 281474976710656 → (Builtin.append_ ts ty #[.slice base len cap, x']).run P w =
    (do if let some a := base then storeCells (a.add (len * i.size)) new'
        pure (.slice base (len + n) cap) : Sem Value).run P w
  grows : ∀ (base : Option Addr) (len cap : Nat) (old : List Value), cap < len + n → (4 * (len + n) + 4000) * i.bytes ≤ 281474976710656 → 4 * (len + n) + 4000 ≤ 9223372036854775807 →
    (∀ W : World, W.heap = w.heap → (Builtin.firstCells i.size len (.slice base len cap)).run P W = .ok old.toArray W) →
    ∃ c', len + n ≤ c' ∧ (Builtin.append_ ts ty #[.slice base len cap, x']).run P w =
      .ok (.slice (some ⟨w.heap.size, 0, none⟩) (len + n) c') { w with drawn := w.drawn + 1, heap := w.heap.push (.cells (old ++ new' ++ repeatL z.cells.toList (c' - (len + n))).toArray el (0, 0)) }
theorem run_first (P : Program) (w : World) {size n : Nat} {r o c : Nat} {l : List Value} (hl : l.length = n * size) (hc : ∀ j v, l[j]? = some v → w.cell? ⟨r, o + j, none⟩ = some v) :
    (Builtin.firstCells size n (.slice (some ⟨r, o, none⟩) n c)).run P w = .ok l.toArray w := by
  have := run_loadC P w ⟨r, o, none⟩ l 0 #[] (fun j v hj => by rw [add_none, Nat.zero_add]; exact hc j v hj)
  simp only [Builtin.firstCells, loadCells, ← hl, this]
  simp
theorem run_first0 (P : Program) (w : World) {size c : Nat} {ra : Addr} : (Builtin.firstCells size 0 (.slice (some ra) 0 c)).run P w = .ok ([] : List Value).toArray w := by
  have := run_loadC P w ra ([] : List Value) 0 #[] (fun j v hj => by simp at hj)
  simp only [Builtin.firstCells, loadCells, Nat.zero_mul]
  simpa using this
theorem zeroCells_eq (z : Array Value) (m : Nat) : (Builtin.zeroCells z m) = (repeatL z.toList m).toArray := by
  apply Array.toList_inj.1
  unfold Builtin.zeroCells
  exact range_repeat z m z.size rfl
theorem cut_ge (need cap : Nat) (el : TypeId) (t : Nat) : need ≤ (Question.appendCap need cap el).cut t := Nat.le_add_right _ _
theorem src_of {x' : Value} {ts : Array TypeId} {ty t el xt : TypeId} {i : TypeInfo} {z : Value} {d : TypeDesc} {n : Nat} {new' : List Value} (hT : TabOk P T) (ht0 : ts[0]? = some t) (hu : T.und t = some (.slice el)) (hi : T.info el = some i) (hz : i.zero = some z)
    (ht1 : ts[1]? = some xt) (hx : T.und xt = some d) (hd : (∃ q, d = .slice q) ∨ d = .string) (hlen : ∀ W : World, (Builtin.lenOf x').run P W = .ok n W) (hf : ∀ W : World, W.heap = w.heap → (Builtin.firstCells i.size n x').run P W = .ok new'.toArray W) : Src P w ts ty el i z x' n new' := by
  have hsize : T.size el = some i.size := by simp [Tab.size, hi]
  have a0 : ∀ v : Value, (#[v, x'] : Array Value)[0]? = some v := fun _ => rfl
  have a1 : ∀ v : Value, (#[v, x'] : Array Value)[1]? = some x' := fun _ => rfl
  refine ⟨fun base len cap hfit _ => ?_, fun base len cap old hgrow hb h63 hold => ?_⟩
  · rcases hd with ⟨q, rfl⟩ | rfl <;>
    · simp only [Builtin.append_, ht0, ht1, a0, a1, Sem.run_bind, run_und hT hu, run_und hT hx, Result.andThen_ok, run_size hT hsize, Sem.run_pure, Bool.false_eq_true, if_false, hlen, hfit, if_true, Bool.not_false, hf w rfl]
      cases base <;> rfl
  · have hno : ¬ (len + n ≤ cap) := by omega
    have hmax : ¬ (((len + n : Nat) : Int) > IntKind.i64.max) := by
      have : IntKind.i64.max = 9223372036854775807 := rfl
      rw [this]
      omega
    have hcap : ¬ (Builtin.nextslicecap (len + n) cap * i.bytes > 2 ^ 48) := by
      have h1 := nsc_le hgrow
      have h2 := Nat.mul_le_mul_right i.bytes h1
      omega
    refine ⟨(Question.appendCap (len + n) cap el).cut (w.tape w.drawn (.appendCap (len + n) cap el)), cut_ge _ _ _ _, ?_⟩
    have hold' := hold { w with drawn := w.drawn + 1 } rfl
    have hf' := hf { w with drawn := w.drawn + 1 } rfl
    rcases hd with ⟨q, rfl⟩ | rfl <;>
    · simp only [Builtin.append_, ht0, ht1, a0, a1, Sem.run_bind, run_und hT hu, run_und hT hx, Result.andThen_ok, run_size hT hsize, Sem.run_pure, Bool.false_eq_true, if_false, hlen, hno, hmax, false_and, run_info hT hi, hcap, run_choose, Question.forced, run_askRoom, hold', hf', if_true, Bool.not_false,
        run_zero hT hi hz, zeroCells_eq]
      simp [newRow]
      exact ⟨rfl, rfl, rfl⟩
theorem src_int {ts : Array TypeId} {ty t el xt : TypeId} {i : TypeInfo} {z : Value} {k : IntKind} {n : Nat} (hT : TabOk P T) (ht0 : ts[0]? = some t) (hu : T.und t = some (.slice el)) (hi : T.info el = some i) (hz : i.zero = some z)
    (ht1 : ts[1]? = some xt) (hx : T.und xt = some (.int k)) (hn : n ≤ 1000000) (hsz : 1 ≤ i.size) : Src P w ts ty el i z (.int .i64 n) n (repeatL z.cells.toList n) := by
  have hsize : T.size el = some i.size := by simp [Tab.size, hi]
  have a0 : ∀ v : Value, (#[v, .int .i64 n] : Array Value)[0]? = some v := fun _ => rfl
  have a1 : ∀ v : Value, (#[v, .int .i64 n] : Array Value)[1]? = some (.int .i64 n) := fun _ => rfl
  have hw : IntKind.i64.wrap (n : Int) = n := by rw [IntKind.wrap_i64]; omega
  have hneg : ¬ ((n : Int) < 0) := by omega
  have hbig : ∀ len, (4 * (len + n) + 4000) * i.bytes ≤ 281474976710656 → ¬ ((n : Int) * (i.bytes : Int) > 2 ^ 48) := by
    intro len hb
    have e1 : (n : Int) * (i.bytes : Int) = ((n * i.bytes : Nat) : Int) := (Int.natCast_mul _ _).symm
    have h2 : n * i.bytes ≤ (4 * (len + n) + 4000) * i.bytes := Nat.mul_le_mul_right _ (by omega)
    rw [e1]
    omega
  have happ : ∀ W : World, (if n * i.size = 0 then pure #[] else do pure (Builtin.zeroCells (← zeroValue el).cells n) : Sem (Array Value)).run P W = .ok (repeatL z.cells.toList n).toArray W := by
    intro W
    by_cases h0 : n * i.size = 0
    · have : n = 0 := by
        rcases Nat.mul_eq_zero.1 h0 with h | h
        · exact h
        · omega
      subst this
      simp [repeatL]
    · simp [h0, run_zero hT hi hz, zeroCells_eq]
  refine ⟨fun base len cap hfit hb => ?_, fun base len cap old hgrow hb h63 hold => ?_⟩
  · simp only [Builtin.append_, ht0, ht1, a0, a1, Sem.run_bind, run_und hT hu, run_und hT hx, Result.andThen_ok, run_size hT hsize, Sem.run_pure, if_true, asInt, asIntOf, hw, hneg, if_false, run_info hT hi, hbig len hb, Int.toNat_natCast, Bool.not_true, Bool.false_eq_true, hfit]
    by_cases h0 : n * i.size = 0
    · have hn0 : n = 0 := by
        rcases Nat.mul_eq_zero.1 h0 with h | h
        · exact h
        · omega
      subst hn0
      simp only [Nat.zero_mul, if_true, Sem.run_pure, Result.andThen_ok, repeatL]
      cases base <;> rfl
    · simp only [h0, if_false, Sem.run_bind, run_zero hT hi hz, Result.andThen_ok, Sem.run_pure, zeroCells_eq]
      cases base <;> rfl
  · have hno : ¬ (len + n ≤ cap) := by omega
    have hmax : ¬ (((len + n : Nat) : Int) > IntKind.i64.max) := by
      have : IntKind.i64.max = 9223372036854775807 := rfl
      rw [this]
      omega
    have hcap : ¬ (Builtin.nextslicecap (len + n) cap * i.bytes > 2 ^ 48) := by
      have h1 := nsc_le hgrow
      have h2 := Nat.mul_le_mul_right i.bytes h1
      omega
    refine ⟨(Question.appendCap (len + n) cap el).cut (w.tape w.drawn (.appendCap (len + n) cap el)), cut_ge _ _ _ _, ?_⟩
    have hold' := hold { w with drawn := w.drawn + 1 } rfl
    simp only [Builtin.append_, ht0, ht1, a0, a1, Sem.run_bind, run_und hT hu, run_und hT hx, Result.andThen_ok, run_size hT hsize, Sem.run_pure, if_true, asInt, asIntOf, hw, hneg, if_false, run_info hT hi, hbig len hb, Int.toNat_natCast, Bool.not_true, Bool.false_eq_true, hno, hmax, false_and, hcap, run_choose, Question.forced, run_askRoom, hold']
    by_cases h0 : n * i.size = 0
    · have hn0 : n = 0 := by
        rcases Nat.mul_eq_zero.1 h0 with h | h
        · exact h
        · omega
      subst hn0
      simp [newRow, run_zero hT hi hz, zeroCells_eq, repeatL]
      rfl
    · simp [h0, newRow, run_zero hT hi hz, zeroCells_eq]
      rfl
end
end Go.Cx