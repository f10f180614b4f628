/- The abstract execution: a function's code is gone through over pure values; what has to be shown on the way stands in the proposition that comes out. Everything hands its result on (so that 'whnf' computes inside out). -/
import Derived.Test.YtkakmigbbipgoaaDoorAxRep
namespace Ax
open Go

abbrev Env := List (Nat × FV)

def lookD : Env → Nat → FV
  | [], _ => .top
  | (t', v) :: E, t => match Nat.beq t t' with | true => v | false => lookD E t

def look : Env → Nat → (FV → Prop) → Prop
  | [], _, R => R .top
  | (t', v) :: E, t, R => match Nat.beq t t' with | true => R v | false => look E t R

def forceP (v : PV) (R : PV → Prop) : Prop :=
  match v with
  | .bool b => R (.bool b) | .int k n => R (.int k n) | .str l => R (.str l)
  | .agg cs => R (.agg cs) | .tup vs => R (.tup vs) | .nilsl => R .nilsl | .sl rows => R (.sl rows)
  | .nilp => R .nilp | .fn f => R (.fn f) | .nilfn => R .nilfn | .nili => R .nili | .ifc t v => R (.ifc t v) | .nilmap => R .nilmap

def forceF (v : FV) (R : FV → Prop) : Prop :=
  match v with
  | .top => R .top
  | .p v => forceP v fun v => R (.p v)
  | .opt g v => R (.opt g v)
  | .tsl k rows => R (.tsl k rows)
  | .ptr k off => R (.ptr k off)
  | .hptr row => R (.hptr row)
  | .bself k => R (.bself k)
  | .bsl k off len cap => R (.bsl k off len cap)
  | .vsl k n => R (.vsl k n)
  | .eptr k z i off => R (.eptr k z i off)
  | .mref k => R (.mref k)
  | .pair a b => R (.pair a b)

theorem forceP_eq (v : PV) (R : PV → Prop) : forceP v R = R v := by cases v <;> rfl
theorem forceF_eq (v : FV) (R : FV → Prop) : forceF v R = R v := by cases v <;> first | rfl | exact forceP_eq _ (fun v => R (.p v))

/-- A value that is written in the code: a cell's. -/
def ofV1 : Value → Option PV
  | .bool b => some (.bool b)
  | .int k n => some (.int k n)
  | .string ⟨⟨l⟩⟩ => some (.str l)
  | .slice none 0 0 => some .nilsl
  | .pointer none => some .nilp
  | .nilIface => some .nili
  | .nilFunc => some .nilfn
  | .map none => some .nilmap
  | _ => none
def ofVs : List Value → (List PV → Prop) → Prop
  | [], R => R []
  | v :: vs, R => match ofV1 v with | some p => ofVs vs fun l => R (p :: l) | none => False
def ofVF : Value → FV
  | .tuple ⟨[]⟩ => .p (.tup [])
  | v => match ofV1 v with | some p => .p p | none => .top

def evF (e : Nat → FV) : Operand → FV
  | .tmp t => e t
  | .const v => ofVF v
  | .func f => .p (.fn f)
  | .global _ => .top

def ev (E : Env) (x : Operand) (R : FV → Prop) : Prop :=
  match x with
  | .tmp t => look E t R
  | .const v => forceF (ofVF v) R
  | .func f => R (.p (.fn f))
  | .global _ => R .top

abbrev G := Option Bool
def gOn (g : G) : Prop := match g with | none => True | some b => b = true
def gI (g : G) (p : Prop) : Prop := match g with | none => p | some b => b = true → p

/-- An operand's value where the guard g holds. -/
def evS (E : Env) (g : G) (x : Operand) (R : FV → Prop) : Prop :=
  ev E x fun v => match v with
  | .opt g' v' => gI g (g' = true) ∧ R v'
  | v => R v

def takeK {α : Type} : Nat → List α → (List α → Prop) → Prop
  | 0, _, R => R []
  | n + 1, l, R => match l with | [] => False | a :: l => takeK n l fun l => R (a :: l)
def dropK {α : Type} : Nat → List α → (List α → Prop) → Prop
  | 0, l, R => R l
  | n + 1, l, R => match l with | [] => False | _ :: l => dropK n l R
def nthK {α : Type} : Nat → List α → (α → Prop) → Prop
  | 0, l, R => match l with | [] => False | a :: _ => R a
  | n + 1, l, R => match l with | [] => False | _ :: l => nthK n l R
def setK {α : Type} : Nat → α → List α → (List α → Prop) → Prop
  | 0, x, l, R => match l with | [] => False | _ :: l => R (x :: l)
  | n + 1, x, l, R => match l with | [] => False | a :: l => setK n x l fun l => R (a :: l)
def snocK {α : Type} : List α → α → (List α → Prop) → Prop
  | [], x, R => R [x]
  | a :: l, x, R => snocK l x fun l => R (a :: l)
def lenK {α : Type} : List α → Nat → (Nat → Prop) → Prop
  | [], n, R => R n
  | _ :: l, n, R => lenK l (n + 1) R

def sizeT (P : Program) (t : TypeId) : Nat := match P.info? t with | some i => i.size | none => 0
def aggD : TypeDesc → Bool
  | .struct _ | .array _ _ => true
  | _ => false
/-- Is a type of several cells (a struct, an array), and of how many. -/
def typeK (P : Program) (t : TypeId) (R : Bool → Nat → Prop) : Prop :=
  match P.underlying t with
  | some d => match P.info? t with
    | some i => R (aggD d) i.size
    | none => False
  | none => False
def fieldK (P : Program) (t : TypeId) (f : Nat) (R : Nat → TypeId → Prop) : Prop :=
  match P.underlying t with
  | some (.struct ⟨fs⟩) => nthK f fs fun x => match P.info? x.type with
    | some i => match Nat.beq i.size 0 with | true => False | false => R x.offset x.type
    | none => False
  | _ => False

/-- A value that stays: nothing of it is the call's own any more. -/
def frzK (v : FV) (R : PV → Prop) : Prop :=
  match v with
  | .p v => R v
  | .tsl _ rows => R (.sl rows)
  | _ => False
def frzL : List FV → (List PV → Prop) → Prop
  | [], R => R []
  | v :: l, R => frzK v fun v => frzL l fun l => R (v :: l)
def evL (E : Env) (g : G) : List Operand → (List FV → Prop) → Prop
  | [], R => R []
  | x :: l, R => evS E g x fun v => evL E g l fun l => R (v :: l)

def maxI : Int := 9223372036854775807

def binI (op : BinOp) (k : IntKind) (a b : Int) (R : PV → Prop) : Prop :=
  match op with
  | .add => R (.int k (k.wrap (a + b)))
  | .sub => R (.int k (k.wrap (a - b)))
  | .mul => R (.int k (k.wrap (a * b)))
  | .eql => R (.bool (a == b))
  | .neq => R (.bool (a != b))
  | .lss => R (.bool (decide (a < b)))
  | .leq => R (.bool (decide (a ≤ b)))
  | .gtr => R (.bool (decide (a > b)))
  | .geq => R (.bool (decide (a ≥ b)))
  | .and => R (.int k (k.wrap (BitVec.ofInt k.bits a &&& BitVec.ofInt k.bits b).toNat))
  | .or => R (.int k (k.wrap (BitVec.ofInt k.bits a ||| BitVec.ofInt k.bits b).toNat))
  | .xor => R (.int k (k.wrap (BitVec.ofInt k.bits a ^^^ BitVec.ofInt k.bits b).toNat))
  | _ => False

def binS (g : G) (op : BinOp) (a b : List UInt8) (R : PV → Prop) : Prop :=
  match op with
  | .add => gI g (((a.length + b.length : Nat) : Int) ≤ maxI) ∧ R (.str (a ++ b))
  | .eql => R (.bool (a == b))
  | .neq => R (.bool (!(a == b)))
  | .lss => R (.bool (Op.bytesLess a b))
  | .leq => R (.bool (Op.bytesLess a b || a == b))
  | .gtr => R (.bool (!(Op.bytesLess a b || a == b)))
  | .geq => R (.bool (!(Op.bytesLess a b)))
  | _ => False

def binB (op : BinOp) (a b : Bool) (R : PV → Prop) : Prop :=
  match op with
  | .eql => R (.bool (a == b))
  | .neq => R (.bool (!(a == b)))
  | _ => False

def isBoolT (P : Program) (t : TypeId) (R : Prop) : Prop :=
  match P.underlying t with
  | some .bool => R
  | _ => False

def kindEq : IntKind → IntKind → Bool
  | .i8, .i8 | .i16, .i16 | .i32, .i32 | .i64, .i64 | .u8, .u8 | .u16, .u16 | .u32, .u32 | .u64, .u64 => true
  | _, _ => false
theorem kindEq_spec {k k' : IntKind} (h : kindEq k k' = true) : k = k' := by cases k <;> cases k' <;> first | rfl | cases h

/-- Numbers: what may fail is asked under the guard. -/
def kBin (P : Program) (g : G) (op : BinOp) (t : TypeId) (x y : FV) (R : FV → Prop) : Prop :=
  match x with
  | .p (.int k a) => match y with
    | .p (.int k' b) => match op with
      | .shl => gI g (0 ≤ b) ∧ R (.p (.int k (k.wrap (a * 2 ^ (min b.toNat k.bits)))))
      | .shr => gI g (0 ≤ b) ∧ R (.p (.int k (a.fdiv (2 ^ (min b.toNat k.bits)))))
      | .quo => match kindEq k k' with | true => gI g (b ≠ 0) ∧ R (.p (.int k (k.wrap (a.tdiv b)))) | false => False
      | .rem => match kindEq k k' with | true => gI g (b ≠ 0) ∧ R (.p (.int k (a.tmod b))) | false => False
      | op => match kindEq k k' with | true => binI op k a b fun v => R (.p v) | false => False
    | _ => False
  | .p (.str a) => match y with
    | .p (.str b) => binS g op a b fun v => R (.p v)
    | _ => False
  | .p (.bool a) => match y with
    | .p (.bool b) => isBoolT P t (binB op a b fun v => R (.p v))
    | _ => False
  | _ => False

def kField (P : Program) (t : TypeId) (x : FV) (f : Nat) (R : FV → Prop) : Prop :=
  match x with
  | .ptr k off => fieldK P t f fun o _ => R (.ptr k (off + o))
  | .hptr row => fieldK P t f fun o _ => dropK o row fun r => R (.hptr r)
  | _ => False

/-- 'x.f' of a value. -/
def kPart (P : Program) (t : TypeId) (x : FV) (f : Nat) (R : FV → Prop) : Prop :=
  match x with
  | .p (.agg cs) => fieldK P t f fun o u => dropK o cs fun r => typeK P u fun agg n => match agg with
    | true => takeK n r fun r => R (.p (.agg r))
    | false => match r with | c :: _ => R (.p c) | [] => False
  | _ => False

def elemK (P : Program) (t : TypeId) (R : TypeId → Nat → Prop) : Prop :=
  match P.underlying t with
  | some (.slice e) => match P.info? e with | some i => R e i.size | none => False
  | _ => False

def kIndexAddr (P : Program) (g : G) (t : TypeId) (x i : FV) (R : FV → Prop) : Prop :=
  match x, i with
  | .p (.sl rows), .p (.int _ i) => elemK P t fun _ z => ∃ row, gI g (0 ≤ i ∧ rows[i.toNat]? = some row ∧ row.length = z) ∧ R (.hptr row)
  | .tsl _ rows, .p (.int _ i) => elemK P t fun _ z => ∃ row, gI g (0 ≤ i ∧ rows[i.toNat]? = some row ∧ row.length = z) ∧ R (.hptr row)
  | .ptr k off, .p (.int _ i) => match P.underlying t with
    | some (.array n e) => match P.info? e with
      | some ti => gI g (0 ≤ i ∧ i < n) ∧ R (.ptr k (off + i.toNat * ti.size))
      | none => False
    | _ => False
  | _, _ => False

def kIndex (P : Program) (g : G) (t : TypeId) (x i : FV) (R : FV → Prop) : Prop :=
  match x, i with
  | .p (.str l), .p (.int _ i) => match P.underlying t with
    | some .string => ∃ b, gI g (0 ≤ i ∧ l[i.toNat]? = some b) ∧ R (.p (.int .u8 b.toNat))
    | _ => False
  | .p (.agg cs), .p (.int _ i) => match P.underlying t with
    | some (.array n e) => typeK P e fun agg z => match agg with
      | false => match Nat.beq z 1 with
        | true => ∃ c, gI g (0 ≤ i ∧ i < n ∧ cs[i.toNat]? = some c) ∧ R (.p c)
        | false => False
      | true => ∃ c, gI g (0 ≤ i ∧ i < n ∧ (cs.drop (i.toNat * z)).take z = c) ∧ R (.p (.agg c))
    | _ => False
  | _, _ => False

/-- The bounds of a slice expression: low, high, out of a length. -/
def boundK (E : Env) (g : G) (x : Option Operand) (d : Nat) (R : Nat → Prop) : Prop :=
  match x with
  | none => R d
  | some x => evS E g x fun v => match v with
    | .p (.int _ i) => ∃ n : Nat, gI g (i = n) ∧ R n
    | _ => False

def kSlice (P : Program) (E : Env) (g : G) (t : TypeId) (x : FV) (lo hi mx : Option Operand) (R : FV → Prop) : Prop :=
  match mx with
  | some _ => False
  | none => match x with
    | .p (.str l) => match P.underlying t with
      | some .string => boundK E g hi l.length fun h => boundK E g lo 0 fun a => gI g (a ≤ h ∧ h ≤ l.length) ∧ R (.p (.str ((l.take h).drop a)))
      | _ => False
    | .p (.sl rows) => match P.underlying t with
      | some (.slice e) => match P.info? e with
        | some i => boundK E g hi rows.length fun h => boundK E g lo 0 fun a => gI g (a ≤ h ∧ h ≤ rows.length ∧ ∀ r ∈ rows, r.length = i.size) ∧ R (.p (.sl ((rows.take h).drop a)))
        | none => False
      | _ => False
    | .tsl _ rows => match P.underlying t with
      | some (.slice e) => match P.info? e with
        | some i => boundK E g hi rows.length fun h => boundK E g lo 0 fun a => gI g (a ≤ h ∧ h ≤ rows.length ∧ ∀ r ∈ rows, r.length = i.size) ∧ R (.p (.sl ((rows.take h).drop a)))
        | none => False
      | _ => False
    | .ptr k off => match P.underlying t with
      | some (.array n e) => match P.info? e with
        | some i => match Nat.beq i.size 1 with
          | true => boundK E g hi n fun h => boundK E g lo 0 fun a => gI g (a ≤ h ∧ h ≤ n ∧ a < n) ∧ R (.bsl k (off + a) (h - a) (n - a))
          | false => False
        | none => False
      | _ => False
    | _ => False

def kLen (P : Program) (t : TypeId) (x : FV) (R : FV → Prop) : Prop :=
  match x with
  | .p (.str l) => match P.underlying t with | some .string => R (.p (.int .i64 l.length)) | _ => False
  | .p (.sl rows) => match P.underlying t with | some (.slice _) => R (.p (.int .i64 rows.length)) | _ => False
  | .tsl _ rows => match P.underlying t with | some (.slice _) => R (.p (.int .i64 rows.length)) | _ => False
  | .bsl _ _ n _ => match P.underlying t with | some (.slice _) => R (.p (.int .i64 n)) | _ => False
  | .p .nilsl => match P.underlying t with | some (.slice _) => R (.p (.int .i64 0)) | _ => False
  | _ => False

def kConvert (P : Program) (src dst : TypeId) (x : FV) (R : FV → Prop) : Prop :=
  match x with
  | .p (.int _ n) => match P.underlying src with
    | some (.int _) => match P.underlying dst with
      | some (.int k) => R (.p (.int k (k.wrap n)))
      | _ => False
    | _ => False
  | .p (.str l) => match P.underlying src with
    | some .string => match P.underlying dst with
      | some .string => R (.p (.str l))
      | _ => False
    | _ => False
  | _ => False

/-- Bytes, as a slice's rows. -/
def bRows (l : List UInt8) : List (List PV) := l.map fun b => [.int .u8 b.toNat]

def u8T (P : Program) (src dst : TypeId) (R : Prop) : Prop :=
  match P.underlying src with
  | some (.slice e) => match P.underlying e with
    | some (.int .u8) => match P.underlying dst with
      | some .string => R
      | _ => False
    | _ => False
  | _ => False

/-- Pointers as unsafe ones, and back: at a box's front. -/
def unsK (P : Program) (src dst : TypeId) (n : Nat) (t : TypeId) (R : Prop) : Prop :=
  match P.underlying src with
  | some (.pointer u) => match P.underlying dst with
    | some .unsafePointer => match P.info? u with
      | some i => (i.size ≠ 0 ∧ 0 < n) ∧ R
      | none => False
    | _ => False
  | some .unsafePointer => match P.underlying dst with
    | some (.pointer u) => match P.info? u with
      | some _ => liesAt P P.depth t (n / P.cellsOf t) 0 u 1 = true ∧ R
      | none => False
    | _ => False
  | _ => False

/-- string(b). -/
def kBytes (P : Program) (g : G) (src dst : TypeId) (lo : List AObj) (x : FV) (R : FV → Prop) : Prop :=
  match x with
  | .p (.sl rows) => u8T P src dst (∃ l, gI g (rows = bRows l) ∧ R (.p (.str l)))
  | .tsl _ rows => u8T P src dst (∃ l, gI g (rows = bRows l) ∧ R (.p (.str l)))
  | .p .nilsl => u8T P src dst (R (.p (.str [])))
  | .bsl k off n _ => u8T P src dst (nthK k lo fun o => match o with
      | .box _ cells => dropK off cells fun cs => takeK n cs fun cs => frzL cs fun ps => ∃ l : List UInt8, gI g (ps = l.map fun b => PV.int .u8 b.toNat) ∧ R (.p (.str l))
      | _ => False)
  | .ptr k off => match Nat.beq off 0 with
    | true => nthK k lo fun o => match o with
      | .box t cells => unsK P src dst cells.length t (R (.ptr k 0))
      | _ => False
    | false => False
  | x => kConvert P src dst x R

/-- A call of a Go function with pure arguments: its one answer. -/
def CallUpon (P : Program) (H : PH) (w : World) (r : PV) : Result Next → Prop
  | .ok (.value v) w' => ∃ H', Calm H w H' w' ∧ RepP H' r v
  | .ok (.enter f args) w' => w' = w ∧ Calls P f args w fun e w'' => ∃ v H', e = .returned v ∧ Calm H w H' w'' ∧ RepP H' r v
  | _ => False

def CallsF (P : Program) (f : FuncId) (args : List PV) (r : PV) : Prop :=
  ∀ (H : PH) (w : World) (vs : List Value), SatH H w → RepL H args vs → CallUpon P H w r ((callFunc f vs.toArray).run P w)

/-- The parts of a literal, in order from 0 on, each a whole element. -/
def partsK (E : Env) (g : G) : Nat → List (Nat × Operand) → (List PV → Prop) → Prop
  | _, [], R => R []
  | k, (i, x) :: l, R => match Nat.beq i k with
    | true => evS E g x fun v => frzK v fun p => partsK E g (k + 1) l fun ps => R (p :: ps)
    | false => False
def cellsP (p : PV) (R : List PV → Prop) : Prop :=
  match p with
  | .agg cs => R cs
  | .tup _ => False
  | p => R [p]
def rowsK : List PV → (List (List PV) → Prop) → Prop
  | [], R => R []
  | p :: ps, R => cellsP p fun c => rowsK ps fun rs => R (c :: rs)
def oneP : PV → Bool
  | .agg _ | .tup _ => false
  | _ => true
/-- '[]T{..}': all its elements are written. -/
def kBuildSlice (P : Program) (E : Env) (g : G) (t : TypeId) (n : Nat) (parts : List (Nat × Operand)) (R : FV → Prop) : Prop :=
  elemK P t fun e z => match Nat.beq parts.length n with
    | true => match Nat.ble 1 n with
      | true => match Nat.ble 1 z with
        | true => match Nat.ble (n * z) 16777216 with
          | true => match P.info? e with
            | some i => match i.zero with
              | some _ => partsK E g 0 parts fun ps => rowsK ps fun rows => (∀ r ∈ rows, r.length = z ∧ r.all oneP = true) ∧ R (.p (.sl rows))
              | none => False
            | none => False
          | false => False
        | false => False
      | false => False
    | false => False

/-- The parts of a struct's literal. -/
def overP : Nat → List PV → List PV → (List PV → Prop) → Prop
  | 0, [], old, R => R old
  | 0, v :: vs, old, R => match old with | [] => False | _ :: old => overP 0 vs old fun l => R (v :: l)
  | n + 1, vs, old, R => match old with | [] => False | a :: old => overP n vs old fun l => R (a :: l)
def fillK (P : Program) (E : Env) (g : G) (fs : List Field) : List (Nat × Operand) → List PV → (List PV → Prop) → Prop
  | [], cs, R => R cs
  | (i, x) :: l, cs, R => nthK i fs fun f => match P.info? f.type with
    | some ti => evS E g x fun v => frzK v fun p => cellsP p fun c => match Nat.beq c.length ti.size with
      | true => overP f.offset c cs fun cs => fillK P E g fs l cs R
      | false => False
    | none => False
def infosB (P : Program) : List Field → Bool
  | [] => true
  | f :: fs => match P.info? f.type with | some _ => infosB P fs | none => false
def kBuild (P : Program) (E : Env) (g : G) (t : TypeId) (parts : List (Nat × Operand)) (R : FV → Prop) : Prop :=
  match P.info? t with
  | some i => match i.zero with
    | some (.agg ⟨vs⟩) => ofVs vs fun zs => match P.underlying t with
      | some (.struct ⟨fs⟩) => match infosB P fs with
        | true => fillK P E g fs parts zs fun cs => R (.p (.agg cs))
        | false => False
      | some (.array _ e) => match P.info? e with
        | some ei => match Nat.beq ei.size 1 with
          | true => partsK E g 0 parts fun ps => ps.length = vs.length ∧ (∀ c ∈ ps, oneP c = true) ∧ R (.p (.agg ps))
          | false => False
        | none => False
      | _ => False
    | _ => False
  | none => False

/-- Pointers: against nil, and against themselves. -/
def kPtr (P : Program) (op : BinOp) (t : TypeId) (x y : FV) (R : FV → Prop) : Prop :=
  match P.underlying t with
  | some (.pointer e) => match P.info? e with
    | some _ => match op with
      | .eql => match x, y with
        | .p .nilp, .p .nilp => R (.p (.bool true))
        | .ptr _ _, .p .nilp => R (.p (.bool false))
        | .hptr _, .p .nilp => R (.p (.bool false))
        | _, _ => False
      | .neq => match x, y with
        | .p .nilp, .p .nilp => R (.p (.bool false))
        | .ptr _ _, .p .nilp => R (.p (.bool true))
        | .hptr _, .p .nilp => R (.p (.bool true))
        | .ptr k off, .ptr k' off' => match Nat.beq k k' with
          | true => match Nat.beq off off' with
            | true => R (.p (.bool false))
            | false => False
          | false => False
        | _, _ => False
      | _ => False
    | none => False
  | _ => False

/-- The operations that neither read nor write an object of the call's own. -/
def kPure (P : Program) (op : Op) (E : Env) (g : G) (R : FV → Prop) : Prop :=
  match op with
  | .move x => match g with | none => ev E x R | some g => evS E (some g) x R
  | .assign x => match g with | none => ev E x R | some g => evS E (some g) x R
  | .pick c a b => evS E g c fun c => match c with
    | .p (.bool c) => match g with
      | none => evS E (some c) a fun a => evS E (some (!c)) b fun b => match a, b with
        | .p (.bool a), .p (.bool b) => R (.p (.bool (bif c then a else b)))
        | _, _ => False
      | some g => evS E (some (g && c)) a fun a => evS E (some (g && !c)) b fun b => match a, b with
        | .p (.bool a), .p (.bool b) => R (.p (.bool (bif c then a else b)))
        | _, _ => False
    | _ => False
  | .fieldAddr t x f => evS E g x fun x => kField P t x f R
  | .field t x f => evS E g x fun x => kPart P t x f R
  | .indexAddr t x i => evS E g x fun x => evS E g i fun i => kIndexAddr P g t x i R
  | .index t x i => evS E g x fun x => evS E g i fun i => kIndex P g t x i R
  | .binOp op t x y _ => evS E g x fun x => evS E g y fun y => match x with
    | .ptr k off => kPtr P op t (.ptr k off) y R
    | .hptr row => kPtr P op t (.hptr row) y R
    | .p .nilp => kPtr P op t (.p .nilp) y R
    | x => kBin P g op t x y R
  | .unOp .not _ x => evS E g x fun x => match x with | .p (.bool b) => R (.p (.bool (!b))) | _ => False
  | .unOp .neg _ x => evS E g x fun x => match x with | .p (.int k n) => R (.p (.int k (k.wrap (0 - n)))) | _ => False
  | .nilCheck x => evS E g x fun x => match x with
    | .ptr k off => R (.ptr k off)
    | .hptr row => R (.hptr row)
    | _ => False
  | .slice t x lo hi mx => evS E g x fun x => kSlice P E g t x lo hi mx R
  | .buildSlice t n ⟨parts⟩ => kBuildSlice P E g t n parts R
  | .build t ⟨parts⟩ => kBuild P E g t parts R
  | .extract x i => evS E g x fun x => match x with | .p (.tup vs) => nthK i vs fun v => R (.p v) | _ => False
  | .makeInterface t x => evS E g x fun x => frzK x fun v => match P.underlying t with
    | some (.interface _) => False
    | some _ => R (.p (.ifc t v))
    | none => False
  | .call { callee := .builtin .len, args := ⟨[x]⟩, argTypes := ⟨[t]⟩ } => evS E g x fun x => kLen P t x R
  | .call { callee := .value (.func f), args := ⟨xs⟩, argTypes := _ } =>
      evL E g xs fun vs => frzL vs fun args => ∃ r, gI g (CallsF P f args r) ∧ R (.p r)
  | _ => False

/-- Loads: what may look at an object of the call's own. -/
def kLoad (P : Program) (t : TypeId) (lo : List AObj) (x : FV) (R : FV → Prop) : Prop :=
  match x with
  | .ptr k off => nthK k lo fun o => match o with
    | .box _ cells => dropK off cells fun cs => typeK P t fun agg n => match agg with
      | true => takeK n cs fun cs => frzL cs fun l => R (.p (.agg l))
      | false => match cs with | c :: _ => R c | [] => False
    | _ => False
  | .hptr row => typeK P t fun agg n => match agg with
    | true => takeK n row fun r => R (.p (.agg r))
    | false => match row with | c :: _ => R (.p c) | [] => False
  | _ => False

def isLoad : Op → Bool
  | .load _ _ => true
  | .convert _ _ _ => true
  | _ => false
def isEff : Op → Bool
  | .box _ _ | .alloc _ | .store _ _ _ => true
  | .call { callee := .builtin .append, .. } => true
  | _ => false

def oneF : FV → Bool
  | .p (.agg _) | .p (.tup _) | .top | .opt _ _ | .pair _ _ => false
  | _ => true

/-- The zero value of a type, as cells. -/
def zeroK (P : Program) (t : TypeId) (R : List PV → Prop) : Prop :=
  match P.info? t with
  | some i => match i.zero with
    | some (.agg ⟨vs⟩) => ofVs vs R
    | some v => ofVs [v] R
    | none => False
  | none => False
def mapP : List PV → (List FV → Prop) → Prop
  | [], R => R []
  | c :: cs, R => mapP cs fun l => R (.p c :: l)

/-- The cells of a value that is stored. -/
def cellsK (v : FV) (R : List FV → Prop) : Prop :=
  match v with
  | .p (.agg cs) => mapP cs R
  | v => match oneF v with | true => R [v] | false => False
def allOne : List FV → Bool
  | [] => true
  | v :: l => match oneF v with | true => allOne l | false => false
/-- Some cells written over others from a place on. -/
def overK : Nat → List FV → List FV → (List FV → Prop) → Prop
  | 0, [], old, R => R old
  | 0, v :: vs, old, R => match old with | [] => False | _ :: old => overK 0 vs old fun l => R (v :: l)
  | n + 1, vs, old, R => match old with | [] => False | a :: old => overK n vs old fun l => R (a :: l)
def rowsOf (x : FV) (R : List (List PV) → Prop) : Prop :=
  match x with
  | .p (.sl rows) => R rows
  | .tsl _ rows => R rows
  | .p .nilsl => R []
  | _ => False

def kEff (P : Program) (op : Op) (E : Env) (lo : List AObj) (R : FV → List AObj → Prop) : Prop :=
  match op with
  | .box t x => evS E none x fun x => cellsK x fun cs => match allOne cs with
    | true => lenK lo 0 fun n => snocK lo (.box t cs) fun lo => R (.ptr n 0) lo
    | false => False
  | .alloc t => zeroK P t fun z => mapP z fun cs => match allOne cs with
    | true => lenK lo 0 fun n => snocK lo (.box t cs) fun lo => R (.ptr n 0) lo
    | false => False
  | .store t a x => evS E none a fun a => evS E none x fun x => match a with
    | .ptr k off => cellsK x fun vs => match allOne vs with
      | true => lenK vs 0 fun n => typeK P t fun _ m => match Nat.beq n m with
        | true => nthK k lo fun o => match o with
          | .box bt cells => overK off vs cells fun cells => setK k (.box bt cells) lo fun lo => R (.p (.tup [])) lo
          | _ => False
        | false => False
      | false => False
    | _ => False
  | .call { callee := .builtin .append, args := ⟨[s, x]⟩, argTypes := ⟨[t, t']⟩ } => match Nat.beq t t' with
    | true => evS E none s fun s => evS E none x fun x => rowsOf x fun news => elemK P t fun e z => match Nat.beq z 0 with
      | true => False
      | false => match P.info? e with
        | some i => match i.zero with
          | some zv => match Nat.beq zv.cells.size z with
            | true => match s with
              | .p .nilsl => ((∀ r ∈ news, r.length = z) ∧ news.length * i.bytes ≤ 140737488355328 ∧ news.length ≤ 9223372036854775807) ∧
                  lenK lo 0 fun k => snocK lo (.tail e z news.length) fun lo => R (.tsl k news) lo
              | .tsl k0 rows => ((∀ r ∈ rows ++ news, r.length = z) ∧ (rows ++ news).length * i.bytes ≤ 140737488355328 ∧ (rows ++ news).length ≤ 9223372036854775807) ∧
                  nthK k0 lo fun o => match o with
                  | .tail e' z' n => (e' = e ∧ z' = z ∧ n = rows.length) ∧
                      setK k0 .dead lo fun lo => lenK lo 0 fun k => snocK lo (.tail e z (rows ++ news).length) fun lo => R (.tsl k (rows ++ news)) lo
                  | _ => False
              | _ => False
            | false => False
          | none => False
        | none => False
    | false => evS E none s fun s => evS E none x fun x => match x with
      | .p (.str str) => match P.underlying t' with
        | some .string => elemK P t fun e z => match Nat.beq z 1 with
          | true => match P.info? e with
            | some i => match i.zero with
              | some (.int .u8 0) => match s with
                | .p .nilsl => ((bRows str).length * i.bytes ≤ 140737488355328 ∧ (bRows str).length ≤ 9223372036854775807) ∧
                    lenK lo 0 fun k => snocK lo (.tail e z (bRows str).length) fun lo => R (.tsl k (bRows str)) lo
                | .tsl k0 rows => ((∀ r ∈ rows, r.length = 1) ∧ (rows ++ bRows str).length * i.bytes ≤ 140737488355328 ∧ (rows ++ bRows str).length ≤ 9223372036854775807) ∧
                    nthK k0 lo fun o => match o with
                    | .tail e' z' n => (e' = e ∧ z' = 1 ∧ n = rows.length) ∧
                        setK k0 .dead lo fun lo => lenK lo 0 fun k => snocK lo (.tail e z (rows ++ bRows str).length) fun lo => R (.tsl k (rows ++ bRows str)) lo
                    | _ => False
                | _ => False
              | _ => False
            | none => False
          | false => False
        | _ => False
      | _ => False
  | _ => False

def guardK (ops : List Oper) (o : Oper) (E : Env) (R : G → Prop) : Prop :=
  match o.guard with
  | none => R none
  | some (j, want) => nthK j ops fun oj => match oj.dst with
      | some d => look E d fun v => match v with
        | .p (.bool b) => match want with | true => R (some b) | false => R (some (!b))
        | .opt g' (.p (.bool b)) => match want with | true => R (some (g' && b)) | false => R (some (g' && !b))
        | _ => False
      | none => False

def putK (N : Nat) (d : Option Tmp) (v : FV) (E : Env) (R : Env → Prop) : Prop :=
  match d with
  | some d => match Nat.blt d N with
    | true => forceF v fun v => R ((d, v) :: E)
    | false => False
  | none => R E

def wrapF (g : G) (v : FV) : FV := match g with | none => v | some g => .opt g v

/-- One operation. -/
def vcOp (P : Program) (N : Nat) (all : List Oper) (o : Oper) (E : Env) (lo : List AObj) (R : Env → List AObj → Prop) : Prop :=
  guardK all o E fun g =>
    match isLoad o.op with
    | true => match o.op with
      | .load t x => evS E g x fun x => kLoad P t lo x fun v => putK N o.dst (wrapF g v) E fun E => R E lo
      | .convert s d x => evS E g x fun x => kBytes P g s d lo x fun v => putK N o.dst (wrapF g v) E fun E => R E lo
      | _ => False
    | false => match isEff o.op with
      | true => match g with
        | none => kEff P o.op E lo fun v lo => putK N o.dst v E fun E => R E lo
        | some _ => False
      | false => kPure P o.op E g fun v => putK N o.dst (wrapF g v) E fun E => R E lo

def vcOps (P : Program) (N : Nat) (all : List Oper) (K : Env → List AObj → Prop) : List Oper → Env → List AObj → Prop
  | [], E, lo => K E lo
  | o :: rest, E, lo => vcOp P N all o E lo (vcOps P N all K rest)

inductive AX where
  | normal | exit (id : Nat) | ret

def memB : List Nat → Nat → Bool
  | [], _ => false
  | a :: l, f => match Nat.beq f a with | true => true | false => memB l f

/-- What may write an object: a call of one of 'inl', too. -/
def isEffI (inl : List Nat) (o : Op) : Bool :=
  match o with
  | .call { callee := .value (.func f), args := _, argTypes := _ } => memB inl f
  | o => isEff o

/-- In a region that draws its order: whatever writes an object of the call's own and whatever looks at one wait for one another. -/
def Region.effFree (inl : List Nat) (ops : Array Oper) (listed : Array Bool) (i : Nat) : Bool :=
  match ops[i]? with
  | none => false
  | some oi => (List.range ops.size).all fun j => j == i || listed.getD j true || match ops[j]? with
      | some oj => oj.after.any (fun e => Region.binds .any e && e.on == i) || (!isEffI inl oi.op || !(isEffI inl oj.op || isLoad oj.op)) && (!isEffI inl oj.op || !(isEffI inl oi.op || isLoad oi.op))
      | none => true
def Region.effFrom (inl : List Nat) (ops : Array Oper) : Nat → Nat → Array Bool → Bool
  | 0, _, _ => true
  | fuel + 1, k, listed => Region.effFree inl ops listed k && Region.effFrom inl ops fuel (k + 1) (listed.setIfInBounds k true)
def drawOk (inl : List Nat) (ops : Array Oper) : Bool := Go.Region.lexB .any ops && Region.effFrom inl ops ops.size 0 (Array.replicate ops.size false)

end Ax
