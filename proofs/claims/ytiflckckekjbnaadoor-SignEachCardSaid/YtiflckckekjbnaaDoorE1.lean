/- The engine, part 1: the short form of a function's code, the symbolic state, and the two judgements. -/
import Derived.Test.YtiflckckekjbnaaDoorE0
import Derived.Scope
namespace Go.Sx
open Go Go.RowKit
set_option linter.all false

/-! ## The short form -/

/-- The kind of a cell: a number's, or a bool. -/
inductive Kd where
  | i (k : IntKind)
  | b
  deriving DecidableEq
def kdL : List (Kd × Nat) → List Kd
  | [] => []
  | (k, n) :: r => List.replicate n k ++ kdL r
/-- Operations, their types looked up. -/
inductive IOp where
  | mv (x : Operand)
  | pick (c a b : Operand)
  | un (op : UnOp) (x : Operand)
  | bin (op : BinOp) (x y : Operand)
  | beq (neg : Bool) (x y : Operand)                    -- == of bools
  | eqa (neg : Bool) (ks : List (Kd × Nat)) (x y : Operand)          -- == of aggregates, each cell a number or a bool
  | conv (k : IntKind) (x : Operand)                    -- a number to a number
  | same (x : Operand)                                   -- a conversion that changes nothing (aggregates)
  | ld (n : Nat) (ag : Bool) (x : Operand)
  | st (n : Nat) (x y : Operand)
  | al (T : TypeId) (z : List Seg)
  | bx (T : TypeId) (x : Operand)
  | bd (z : List Seg) (parts : List (Nat × Nat × Operand))
  | fa (off : Nat) (x : Operand)
  | ia (len w : Nat) (x i : Operand)
  | ias (w : Nat) (x i : Operand)
  | fld (off n : Nat) (ag : Bool) (x : Operand)
  | idx (len w : Nat) (ag : Bool) (x i : Operand)
  | ext (x : Operand) (i : Nat)
  | sla (len w : Nat) (x : Operand) (lo hi mx : Option Operand)
  | sls (w : Nat) (x : Operand) (lo hi mx : Option Operand)
  | call (f : FuncId) (args : List Operand)
  | len (x : Operand)                                    -- of a slice
  | lena (n : Nat)                                       -- of an array
  | cap (x : Operand)
  | xcall (f : FuncId) (args : List Operand)             -- a function without a body
  | nilc (x : Operand)
  | isn (neg : Bool) (x : Operand)                       -- a slice == nil
  | s2a (n : Nat) (x : Operand)
  | mks (T : TypeId) (bytes : Nat) (z : List Seg) (l c : Operand)
  | bs (T : TypeId) (len w : Nat) (z : List Seg) (parts : List (Nat × Nat × Operand))        -- a slice of these
  | app (T : TypeId) (w bytes : Nat) (z : List Seg) (x y : Operand)
  | cpy (w : Nat) (x y : Operand)
  | apz (T : TypeId) (w bytes : Nat) (z : List Seg) (x y : Operand)   -- append of y noughts
  | raw                                                   -- anything else
  deriving Inhabited

structure IOpr where
  d : Option Nat
  g : Option (Nat × Bool)
  op : IOp

/-- An operation; or '&&', '||': the operations that are guarded by a temporary, and the choice behind them. -/
inductive J where
  | op (i : IOpr)
  | lg (or : Bool) (tc d : Nat) (g : Option (Nat × Bool)) (grp : List J) (y : Operand)

mutual
def J.flat : J → List IOpr
  | .op i => [i]
  | .lg or tc d g grp y => J.flatL grp ++ [⟨some d, g, bif or then .pick (.tmp tc) (.const (.bool true)) y else .pick (.tmp tc) y (.const (.bool false))⟩]
def J.flatL : List J → List IOpr
  | [] => []
  | j :: r => j.flat ++ J.flatL r
end

/-- A schedule: quiet operations that are taken first (by their places); quiet ones of no memory; an operation with an effect when nothing else can come up; two when these two can. -/
inductive Sch where
  | nil
  | q (idx : List Nat) (j : J) (r : Sch)
  | p (idx : List Nat) (j : J) (r : Sch)
  | e (i : Nat) (o : IOpr) (r : Sch)
  | two (i : Nat) (o : IOpr) (r : Sch) (i' : Nat) (o' : IOpr) (r' : Sch)

inductive IC where
  | skip
  | ret
  | ops (l : List J)
  | draw (s : Sch) (late : List Nat)
  | seq (a b : IC)
  | cond (x : Operand) (a b : IC)
  | block (id : Nat) (c : IC)
  | loop (c : IC)
  | exit (id : Nat)
  | scope (c : IC)
  | lbl
  | raw

/-! ## Equality of plain values, decided -/

def veq : Value → Value → Bool
  | .int k a, .int k' b => decide (k = k') && decide (a = b)
  | .bool a, .bool b => a == b
  | .string a, .string b => decide (a.data.toList = b.data.toList)
  | .pointer none, .pointer none => true
  | .slice none a b, .slice none c d => a == c && b == d
  | .map none, .map none => true
  | .nilFunc, .nilFunc => true
  | .nilIface, .nilIface => true
  | .agg a, .agg b => decide (a.size = 0) && decide (b.size = 0)
  | _, _ => false

theorem veq_sound {a b : Value} (h : veq a b = true) : a = b := by
  unfold veq at h
  split at h <;> simp_all
  · rename_i x y
    cases x; cases y
    simp only [ByteArray.mk.injEq]
    exact Array.ext' (by simpa using congrArg Array.toList h)

def veqL : List Value → List Value → Bool
  | [], [] => true
  | a :: r, b :: q => veq a b && veqL r q
  | _, _ => false
theorem veqL_sound : ∀ {a b : List Value}, veqL a b = true → a = b
  | [], [], _ => rfl
  | [], _ :: _, h => by simp [veqL] at h
  | _ :: _, [], h => by simp [veqL] at h
  | a :: r, b :: q, h => by
    simp only [veqL, Bool.and_eq_true] at h
    rw [veq_sound h.1, veqL_sound h.2]

def oeq : Operand → Operand → Bool
  | .tmp a, .tmp b => Nat.beq a b
  | .const a, .const b => veq a b
  | .global a, .global b => Nat.beq a b
  | .func a, .func b => Nat.beq a b
  | _, _ => false
theorem oeq_sound {a b : Operand} (h : oeq a b = true) : a = b := by
  unfold oeq at h
  split at h
  · rw [Nat.beq_eq] at h; rw [h]
  · rw [veq_sound h]
  · rw [Nat.beq_eq] at h; rw [h]
  · rw [Nat.beq_eq] at h; rw [h]
  · cases h
def oeqL : List Operand → List Operand → Bool
  | [], [] => true
  | a :: r, b :: q => oeq a b && oeqL r q
  | _, _ => false
theorem oeqL_sound : ∀ {a b : List Operand}, oeqL a b = true → a = b
  | [], [], _ => rfl
  | [], _ :: _, h => by simp [oeqL] at h
  | _ :: _, [], h => by simp [oeqL] at h
  | a :: r, b :: q, h => by
    simp only [oeqL, Bool.and_eq_true] at h
    rw [oeq_sound h.1, oeqL_sound h.2]
def oeqO : Option Operand → Option Operand → Bool
  | none, none => true
  | some a, some b => oeq a b
  | _, _ => false
theorem oeqO_sound {a b : Option Operand} (h : oeqO a b = true) : a = b := by
  cases a <;> cases b <;> simp_all [oeqO]
  exact oeq_sound h

/-! ## Types -/

def isAggD : TypeDesc → Bool
  | .struct _ | .array _ _ => true
  | _ => false
def szOf (P : Program) (T : TypeId) : Option Nat := (P.info? T).map (·.size)
def aggOf (P : Program) (T : TypeId) : Option Bool := (P.underlying T).map isAggD
def zOf (P : Program) (T : TypeId) : Option (List Value) := (P.info? T).bind fun i => i.zero.map fun v => v.cells.toList

def agOk (P : Program) (T : TypeId) (n : Nat) : Bool := match aggOf P T with
  | some true => true
  | some false => decide (n = 1)
  | none => false
/-- The kinds of the cells of a type's values, where all are numbers or bools, and none of its structs is one that the model holds apart. -/
def kindsOf (P : Program) : Nat → TypeId → Option (List Kd)
  | 0, _ => none
  | d + 1, T => match P.underlying T with
    | some .bool => some [.b]
    | some (.int k) => some [.i k]
    | some (.struct fs) => if P.stoodInHeld T then none else fs.toList.foldl (fun acc f => match acc, kindsOf P d f.type with
        | some l, some l' => if (f.name != "_") && decide (f.offset = l.length) && (szOf P f.type == some l'.length) && agOk P f.type l'.length then some (l ++ l') else none
        | _, _ => none) (some [])
    | some (.array n e) => match kindsOf P d e with
      | some l => if (szOf P e == some l.length) && agOk P e l.length then some (List.replicate n l).flatten else none
      | none => none
    | _ => none

/-- Where the parts of a 'build' come to lie. -/
def placeOk (P : Program) (T : TypeId) : List (Nat × Operand) → List (Nat × Nat × Operand) → Bool
  | [], [] => true
  | (i, x) :: r, (off, n, y) :: q =>
    (match P.underlying T with
      | some (.struct fs) => match fs[i]? with
        | some f => decide (f.offset = off) && (szOf P f.type == some n)
        | none => false
      | some (.array _ e) => match szOf P e with
        | some s => decide (i * s = off) && decide (s = n)
        | none => false
      | _ => false) && oeq x y && placeOk P T r q
  | _, _ => false

def infoOk (P : Program) (T : TypeId) (w bytes : Nat) : Bool := match P.info? T with
  | some i => Nat.beq i.size w && Nat.beq i.bytes bytes && Nat.blt 0 bytes
  | none => false
def partsOk (w : Nat) : List (Nat × Operand) → List (Nat × Nat × Operand) → Bool
  | [], [] => true
  | (j, x) :: r, (off, n, y) :: q => Nat.beq (j * w) off && Nat.beq n w && oeq x y && partsOk w r q
  | _, _ => false

def okOp (P : Program) (o : Oper) : IOp → Bool
  | .mv y => match o.op with
    | .move x | .assign x => oeq x y
    | _ => false
  | .pick c a b => match o.op with
    | .pick c' a' b' => oeq c' c && oeq a' a && oeq b' b
    | _ => false
  | .un op x => match o.op with
    | .unOp op' _ x' => decide (op' = op) && oeq x' x
    | _ => false
  | .bin op x y => match o.op with
    | .binOp op' _ x' y' _ => decide (op' = op) && oeq x' x && oeq y' y
    | _ => false
  | .beq neg x y => match o.op with
    | .binOp op' T x' y' _ => decide (op' = if neg then .neq else .eql) && oeq x' x && oeq y' y && (match P.underlying T with | some .bool => true | _ => false)
    | _ => false
  | .eqa neg ks x y => match o.op with
    | .binOp op' T x' y' _ => decide (op' = if neg then .neq else .eql) && oeq x' x && oeq y' y && (kindsOf P 12 T == some (kdL ks)) && (aggOf P T == some true) && !P.eqGuardType P.depth T
    | _ => false
  | .conv k x => match o.op with
    | .convert S D x' => oeq x' x && (match P.underlying D with | some (.int k') => decide (k' = k) | _ => false) && (P.underlying S).isSome
    | _ => false
  | .same x => match o.op with
    | .convert S D x' => oeq x' x && false
    | _ => false
  | .ld n ag x => match o.op with
    | .load T x' => oeq x' x && (szOf P T == some n) && (aggOf P T == some ag)
    | _ => false
  | .st n x y => match o.op with
    | .store T x' y' => oeq x' x && oeq y' y && (szOf P T == some n)
    | _ => false
  | .al T z => match o.op with
    | .alloc T' => decide (T' = T) && (match zOf P T with | some l => veqL l (cells z) | none => false)
    | _ => false
  | .bx T x => match o.op with
    | .box T' x' => decide (T' = T) && oeq x' x
    | _ => false
  | .bd z parts => match o.op with
    | .build T ps => (match zOf P T with | some l => veqL l (cells z) | none => false) && placeOk P T ps.toList parts && (match P.underlying T with
      | some (.struct fs) => fs.toList.all fun f => (szOf P f.type).isSome
      | some (.array _ e) => (szOf P e).isSome
      | _ => false)
    | _ => false
  | .fa off x => match o.op with
    | .fieldAddr T x' f => oeq x' x && (match P.underlying T with
      | some (.struct fs) => match fs[f]? with
        | some fd => decide (fd.offset = off) && (match szOf P fd.type with | some s => decide (s ≠ 0) | none => false)
        | none => false
      | _ => false)
    | _ => false
  | .ia len w x i => match o.op with
    | .indexAddr T x' i' => oeq x' x && oeq i' i && (match P.underlying T with
      | some (.array l e) => decide (l = len) && (szOf P e == some w)
      | _ => false)
    | _ => false
  | .ias w x i => match o.op with
    | .indexAddr T x' i' => oeq x' x && oeq i' i && (match P.underlying T with
      | some (.slice e) => szOf P e == some w
      | _ => false)
    | _ => false
  | .fld off n ag x => match o.op with
    | .field T x' f => oeq x' x && (match P.underlying T with
      | some (.struct fs) => match fs[f]? with
        | some fd => decide (fd.offset = off) && (szOf P fd.type == some n) && (aggOf P fd.type == some ag)
        | none => false
      | _ => false)
    | _ => false
  | .idx len w ag x i => match o.op with
    | .index T x' i' => oeq x' x && oeq i' i && (match P.underlying T with
      | some (.array l e) => decide (l = len) && (szOf P e == some w) && (aggOf P e == some ag)
      | _ => false)
    | _ => false
  | .ext x i => match o.op with
    | .extract x' i' => oeq x' x && decide (i' = i)
    | _ => false
  | .sla len w x lo hi mx => match o.op with
    | .slice T x' lo' hi' mx' => oeq x' x && oeqO lo' lo && oeqO hi' hi && oeqO mx' mx && (match P.underlying T with
      | some (.array l e) => decide (l = len) && (szOf P e == some w)
      | _ => false)
    | _ => false
  | .sls w x lo hi mx => match o.op with
    | .slice T x' lo' hi' mx' => oeq x' x && oeqO lo' lo && oeqO hi' hi && oeqO mx' mx && (match P.underlying T with
      | some (.slice e) => szOf P e == some w
      | _ => false)
    | _ => false
  | .call f args => match o.op with
    | .call c => (match c.callee with
      | .value (.func f') => Nat.beq f' f
      | _ => false) && oeqL c.args.toList args && (match P.funcs[f]? with
      | some fn => fn.body.isSome && !(fn.name == "runtime.NumGoroutine")
      | none => false)
    | _ => false
  | .len x => match o.op with
    | .call c => (match c.callee with
      | .builtin .len => true
      | _ => false) && oeqL c.args.toList [x] && (match (c.argTypes[0]?).bind P.underlying with
      | some (.slice _) => true
      | _ => false)
    | _ => false
  | .lena n => match o.op with
    | .call c => (match c.callee with
      | .builtin .len => true
      | _ => false) && (match c.args.toList with | [_] => true | _ => false) && (match (c.argTypes[0]?).bind P.underlying with
      | some (.array k _) => decide (k = n)
      | _ => false)
    | _ => false
  | .cap x => match o.op with
    | .call c => (match c.callee with
      | .builtin .cap => true
      | _ => false) && oeqL c.args.toList [x] && (match (c.argTypes[0]?).bind P.underlying with
      | some (.slice _) => true
      | _ => false)
    | _ => false
  | .xcall f args => match o.op with
    | .call c => (match c.callee with
      | .value (.func f') => Nat.beq f' f
      | _ => false) && oeqL c.args.toList args
    | _ => false
  | .nilc x => match o.op with
    | .nilCheck x' => oeq x' x
    | _ => false
  | .isn neg x => match o.op with
    | .binOp op' T x' y' _ => decide (op' = if neg then .neq else .eql) && oeq x' x && oeq y' (.const (.slice none 0 0)) && (match P.underlying T with | some (.slice _) => true | _ => false)
    | _ => false
  | .s2a n x => match o.op with
    | .sliceToArrayPointer A x' => oeq x' x && (match P.underlying A with | some (.array k _) => decide (k = n) | _ => false)
    | _ => false
  | .mks T bytes z l c => match o.op with
    | .makeSlice t l' c' => oeq l' l && oeq c' c && (match P.underlying t with | some (.slice e) => decide (e = T) | _ => false) && infoOk P T (width z) bytes && (match zOf P T with | some q => veqL q (cells z) | none => false)
    | _ => false
  | .bs T len w z parts => match o.op with
    | .buildSlice t len' ps => (match P.underlying t with | some (.slice e) => decide (e = T) | _ => false) && Nat.beq len' len && (szOf P T == some w) && (match zOf P T with
      | some q => veqL ((Array.range (len * w)).map fun i => q.toArray[i % q.toArray.size]!).toList (cells z)
      | none => false) && partsOk w ps.toList parts && Nat.ble (len * w) 16777216
    | _ => false
  | .app T w bytes z x y => match o.op with
    | .call c => (match c.callee with
      | .builtin .append => true
      | _ => false) && oeqL c.args.toList [x, y] && (match (c.argTypes[0]?).bind P.underlying with
      | some (.slice e) => decide (e = T)
      | _ => false) && (match (c.argTypes[1]?).bind P.underlying with
      | some (.slice _) => true
      | some .string => true
      | _ => false) && infoOk P T w bytes && (match zOf P T with | some q => veqL q (cells z) | none => false) && Nat.beq (width z) w && Nat.blt 0 w
    | _ => false
  | .apz T w bytes z x y => match o.op with
    | .call c => (match c.callee with
      | .builtin .append => true
      | _ => false) && oeqL c.args.toList [x, y] && (match (c.argTypes[0]?).bind P.underlying with
      | some (.slice e) => decide (e = T)
      | _ => false) && (match (c.argTypes[1]?).bind P.underlying with
      | some (.int _) => true
      | _ => false) && infoOk P T w bytes && (match zOf P T with | some q => veqL q (cells z) | none => false) && Nat.beq (width z) w && Nat.blt 0 w
    | _ => false
  | .cpy w x y => match o.op with
    | .call c => (match c.callee with
      | .builtin .copy => true
      | _ => false) && oeqL c.args.toList [x, y] && (match (c.argTypes[0]?).bind P.underlying with
      | some (.slice e) => szOf P e == some w
      | _ => false)
    | _ => false
  | .raw => true

def okGuard (ops : Array Oper) : Option (Nat × Bool) → Option (Nat × Bool) → Bool
  | none, none => true
  | some (j, want), some (t, want') => want == want' && (match (ops[j]?).bind (·.dst) with | some t' => Nat.beq t' t | none => false)
  | _, _ => false
def okD (n : Nat) : Option Nat → Option Nat → Bool
  | none, none => true
  | some a, some b => Nat.beq a b && Nat.blt b n
  | _, _ => false
def okL (P : Program) (n : Nat) (ops : Array Oper) : List Oper → List IOpr → Bool
  | [], [] => true
  | o :: lo, i :: l => okD n o.dst i.d && okGuard ops o.guard i.g && okOp P o i.op && okL P n ops lo l
  | _, _ => false

def lateB (l : List Nat) (j : Nat) : Bool := l.contains j
def selB (o : Oper) : Bool := match o.op with | .select .. => true | _ => false
def ops? (ops : Array Oper) : List Nat → Option (List Oper)
  | [] => some []
  | i :: r => match ops[i]?, ops? ops r with
    | some o, some l => some (o :: l)
    | _, _ => none

/-- Does operation j wait for operation i, at whatever remove? -/
def anc (ops : Array Oper) (i : Nat) : Nat → Nat → Bool
  | 0, _ => false
  | n + 1, j => match ops[j]? with
    | some o => o.after.any fun e => Region.binds .any e && (e.on == i || anc ops i n e.on)
    | none => false

/-- Quiet operations taken one behind the other: each can come up, is apart from what does not wait for it, and each late one waits for it. -/
def takeOk (ops : Array Oper) (late : List Nat) : List Nat → Array Bool → Option (Array Bool)
  | [], listed => some listed
  | i :: r, listed =>
    bif (Region.ready .any ops listed).contains i && Region.free .any ops listed i && late.all (fun j => Nat.beq j i || listed.getD j true || anc ops i ops.size j)
    then takeOk ops late r (listed.setIfInBounds i true) else none
def schedOk (P : Program) (n : Nat) (ops : Array Oper) (late : List Nat) : Sch → Array Bool → Bool
  | .nil, listed => (Region.ready .any ops listed).isEmpty
  | .q idx j r, listed => (match ops? ops idx with
      | some lo => okL P n ops lo j.flat
      | none => false) && (match takeOk ops late idx listed with
      | some listed' => schedOk P n ops late r listed'
      | none => false)
  | .p idx j r, listed => (match ops? ops idx with
      | some lo => okL P n ops lo j.flat
      | none => false) && (match takeOk ops [] idx listed with
      | some listed' => schedOk P n ops late r listed'
      | none => false)
  | .e i op r, listed => (match ops[i]? with
      | some o => okL P n ops [o] [op]
      | none => false) && (match Region.ready .any ops listed with
      | [k] => Nat.beq k i
      | _ => false) && schedOk P n ops late r (listed.setIfInBounds i true)
  | .two i op r i' op' r', listed => (match ops[i]?, ops[i']? with
      | some o, some o' => okL P n ops [o] [op] && okL P n ops [o'] [op']
      | _, _ => false) && (match Region.ready .any ops listed with
      | [k, k'] => Nat.beq k i && Nat.beq k' i'
      | _ => false) && schedOk P n ops late r (listed.setIfInBounds i true) && schedOk P n ops late r' (listed.setIfInBounds i' true)

def slen : Sch → Nat
  | .nil => 0
  | .q idx _ r => idx.length + slen r
  | .p idx _ r => idx.length + slen r
  | .e _ _ r => slen r + 1
  | .two _ _ r _ _ _ => slen r + 1
def slenOk : Sch → Bool
  | .nil => true
  | .q _ _ r => slenOk r
  | .p _ _ r => slenOk r
  | .e _ _ r => slenOk r
  | .two _ _ r _ _ r' => Nat.beq (slen r) (slen r') && slenOk r && slenOk r'

def okC (P : Program) (n : Nat) : Code → IC → Bool
  | .skip, .skip => true
  | .ret, .ret => true
  | .region _ ops draw, .ops l => okL P n ops ops.toList (J.flatL l) && !draw
  | .region _ ops draw, .draw s late => draw && Region.noSelect ops && Nat.beq (slen s) ops.size && slenOk s && schedOk P n ops late s (Array.replicate ops.size false)
  | .seq a b, .seq a' b' => okC P n a a' && okC P n b b'
  | .cond x a b, .cond x' a' b' => oeq x x' && okC P n a a' && okC P n b b'
  | .block id c, .block id' c' => Nat.beq id id' && okC P n c c'
  | .loop c, .loop c' => okC P n c c'
  | .exit id, .exit id' => Nat.beq id id'
  | .scope c, .scope c' => okC P n c c'
  | .label _, .lbl => true
  | _, .raw => true
  | _, _ => false

/-! ## The symbolic state -/

abbrev TS := List (Nat × Value)
def look : TS → Nat → Option Value
  | [], _ => none
  | (i, v) :: r, j => bif Nat.beq i j then some v else look r j
def ev (t : TS) : Operand → Option Value
  | .tmp j => look t j
  | .const v => some v
  | .global g => some (.pointer (some ⟨g, 0, none⟩))
  | .func f => some (.func (.func f) #[] #[])
def evL (t : TS) : List Operand → Option (List Value)
  | [] => some []
  | x :: r => match ev t x, evL t r with
    | some v, some l => some (v :: l)
    | _, _ => none

structure SatT (n : Nat) (t : TS) (a : Act) : Prop where
  size : a.tmps.size = n
  defers : a.defers = []
  look : ∀ j v, look t j = some v → a.tmps.getD j undef = v

theorem SatT.ev {n : Nat} {t : TS} {a : Act} (h : SatT n t a) {x : Operand} {v : Value} (hx : ev t x = some v) : a.eval x = v := by
  cases x with
  | tmp j => exact h.look j v hx
  | const u => exact Option.some.inj hx
  | global g => exact Option.some.inj hx
  | func f => exact Option.some.inj hx
theorem SatT.evL {n : Nat} {t : TS} {a : Act} (h : SatT n t a) : ∀ {l : List Operand} {vs : List Value}, Sx.evL t l = some vs → l.map a.eval = vs
  | [], vs, hv => by simp only [Sx.evL, Option.some.injEq] at hv; subst hv; rfl
  | x :: r, vs, hv => by
    simp only [Sx.evL] at hv
    split at hv
    · rename_i v l h1 h2
      injection hv with hv; subst hv
      simp [h.ev h1, SatT.evL h h2]
    · cases hv
theorem getD_set {a : Array Value} {d j : Nat} {v : Value} (hd : d < a.size) : (a.setIfInBounds d v).getD j undef = if j = d then v else a.getD j undef := by
  simp only [Array.getD_eq_getD_getElem?, Array.getElem?_setIfInBounds]
  by_cases h : j = d
  · subst h; simp [hd]
  · rw [if_neg (fun e => h e.symm), if_neg h]
theorem SatT.put {n : Nat} {t : TS} {a : Act} (h : SatT n t a) {d : Nat} (hd : d < n) (v : Value) : SatT n ((d, v) :: t) (a.put (some d) v) where
  size := by simp [Act.put, h.size]
  defers := h.defers
  look := by
    intro j u hu
    simp only [Sx.look] at hu
    simp only [Act.put]
    rw [getD_set (by rw [h.size]; exact hd)]
    by_cases e : Nat.beq d j = true
    · rw [e, cond_true] at hu
      rw [Nat.beq_eq] at e; subst e
      rw [if_pos rfl]; exact Option.some.inj hu
    · rw [Bool.not_eq_true] at e; rw [e, cond_false] at hu
      rw [if_neg (by intro e'; subst e'; rw [Nat.beq_refl] at e; cases e)]
      exact h.look j u hu
theorem SatT.drop {n : Nat} {t t' : TS} {a : Act} (h : SatT n t a) (hs : ∀ j v, Sx.look t' j = some v → Sx.look t j = some v) : SatT n t' a :=
  ⟨h.size, h.defers, fun j v hv => h.look j v (hs j v hv)⟩

/-- A block of memory and what it holds. -/
structure Chunk where
  b : Nat
  o : Obj
/-- A block of cells, by its segments. -/
abbrev ck (b : Nat) (T : TypeId) (s : List Seg) : Chunk := ⟨b, .cells (cells s).toArray T (0, 0)⟩

structure Frame (W0 : World) (S : List Nat) (w : World) : Prop where
  os : w.os = W0.os
  tape : w.tape = W0.tape
  output : w.output = W0.output
  size : W0.heap.size ≤ w.heap.size
  block : ∀ k, k < W0.heap.size → k ∉ S → w.heap[k]? = W0.heap[k]?

structure Sat (W0 : World) (S : List Nat) (m : List Chunk) (w : World) : Prop where
  fr : Frame W0 S w
  own : ∀ c ∈ m, w.heap[c.b]? = some c.o
  base : ∀ c ∈ m, W0.heap.size ≤ c.b ∨ c.b ∈ S
  dist : (m.map (·.b)).Nodup

theorem Frame.of_below {W0 : World} {S : List Nat} {w w' : World} (h : Frame W0 S w) (hb : Below w.heap.size w w') : Frame W0 S w' :=
  ⟨hb.os.trans h.os, hb.tape.trans h.tape, hb.output.trans h.output, Nat.le_trans h.size hb.size,
    fun k hk hS => (hb.block k (Nat.lt_of_lt_of_le hk h.size)).trans (h.block k hk hS)⟩
theorem Sat.of_below {W0 : World} {S : List Nat} {m : List Chunk} {w w' : World} (h : Sat W0 S m w) (hb : Below w.heap.size w w') : Sat W0 S m w' :=
  ⟨h.fr.of_below hb, fun c hc => by
    have h1 := h.own c hc
    have h2 : c.b < w.heap.size := (Array.getElem?_eq_some_iff.1 h1).1
    rw [hb.block _ h2]; exact h1, h.base, h.dist⟩
theorem Sat.drew {W0 : World} {S : List Nat} {m : List Chunk} {w : World} (h : Sat W0 S m w) : Sat W0 S m { w with drawn := w.drawn + 1 } :=
  h.of_below (Below.drew (Below.refl _ _))
theorem Frame.below {W0 w : World} (h : Frame W0 [] w) : Below W0.heap.size W0 w :=
  ⟨h.os, h.tape, h.output, h.size, fun k hk => h.block k hk (by simp)⟩

/-! ## The two judgements -/

structure Cfg where
  P : Program
  n : Nat
  W0 : World
  S : List Nat

def Q1 (C : Cfg) (m : List Chunk) (t : TS) (i : IOp) (v : Value) : Prop :=
  ∀ (o : Oper), okOp C.P o i = true → ∀ a, SatT C.n t a → ∀ w, Sat C.W0 C.S m w → o.quietAt C.P a (fun w' => Below w.heap.size w w') w v

abbrev KN := TS → List Chunk → Prop

def Cont (C : Cfg) (kn : KN) (Q : Act → World → Prop) : Prop := ∀ t m, kn t m → ∀ a w, SatT C.n t a → Sat C.W0 C.S m w → Q a w

def WL (C : Cfg) (l : List IOpr) (t : TS) (m : List Chunk) (kn : KN) : Prop :=
  ∀ (ops : Array Oper) (lo : List Oper), okL C.P C.n ops lo l = true → ∀ Q a w, SatT C.n t a → Sat C.W0 C.S m w → Cont C kn (Q .normal) → wpList C.P ops Q lo a w

structure KE where
  brk : List (Nat × KN)
  ret : KN

def lookK : List (Nat × KN) → Nat → Option KN
  | [], _ => none
  | (i, k) :: r, j => bif Nat.beq i j then some k else lookK r j

structure Conts (C : Cfg) (kn : KN) (ke : KE) (Q : Exit → Act → World → Prop) : Prop where
  n : Cont C kn (Q .normal)
  b : ∀ id k, lookK ke.brk id = some k → Cont C k (Q (.exit id))
  r : Cont C ke.ret (Q .ret)

def WC (C : Cfg) (c : IC) (t : TS) (m : List Chunk) (kn : KN) (ke : KE) : Prop :=
  C.P.follows .mixedOrders = true → ∀ c0, okC C.P C.n c0 c = true → ∀ Q a w, SatT C.n t a → Sat C.W0 C.S m w → Conts C kn ke Q → c0.wp C.P Q a w

/-! ## Structure -/

theorem wl_nil {C : Cfg} {t : TS} {m : List Chunk} {kn : KN} (h : kn t m) : WL C [] t m kn := by
  intro ops lo hok Q a w ha hw hc
  cases lo with
  | nil => exact hc t m h a w ha hw
  | cons o lo => simp [okL] at hok
theorem wp_of_quietAt {P : Program} {o : Oper} {a : Act} {v : Value} {w : World} {C : World → Prop} (h : o.quietAt P a C w v) {K : Act → World → Prop} {Q : Exit → Act → World → Prop} (hw : C w) (hK : ∀ w', C w' → K (a.put o.dst v) w') : o.wp P a w K Q := by
  unfold Oper.quietAt at h
  unfold Oper.wp
  generalize (execOp a.eval o).run P w = r at *
  cases r with
  | ok n w' =>
    cases n <;> simp only [Oper.quietUpon] at h <;> simp only [Oper.upon]
    case value u => obtain ⟨rfl, rfl⟩ := h; exact hK _ hw
    case skip => obtain ⟨rfl, rfl⟩ := h; exact hK _ hw
    case enter f args =>
      obtain ⟨rfl, hc⟩ := h
      exact hc.mono fun e w'' ⟨he, hw''⟩ => by subst he; exact hK _ hw''
  | halt x w' => simp only [Oper.quietUpon] at h

theorem okD_some {n : Nat} {x : Option Nat} {d : Nat} (h : okD n x (some d) = true) : x = some d ∧ d < n := by
  cases x with
  | none => simp [okD] at h
  | some a =>
    simp only [okD, Bool.and_eq_true, Nat.beq_eq] at h
    exact ⟨by rw [h.1], by simpa [Nat.blt_eq] using h.2⟩
theorem okD_none {n : Nat} {x : Option Nat} (h : okD n x none = true) : x = none := by
  cases x with
  | none => rfl
  | some a => simp [okD] at h
theorem okGuard_none {ops : Array Oper} {x : Option (Nat × Bool)} (h : okGuard ops x none = true) : x = none := by
  cases x with
  | none => rfl
  | some a => simp [okGuard] at h

theorem wanted_none {o : Oper} {y : Nat → Option Bool} (h : o.guard = none) : Region.wanted o y = true := by simp [Region.wanted, h]
theorem wanted_guard {ops : Array Oper} {o : Oper} {tc : Nat} {want c : Bool} {n : Nat} {t : TS} {a : Act} (hg : okGuard ops o.guard (some (tc, want)) = true)
    (ha : SatT n t a) (hc : look t tc = some (.bool c)) : Region.wanted o (yielded ops a.tmps) = (c == want) := by
  cases hog : o.guard with
  | none => rw [hog] at hg; simp [okGuard] at hg
  | some jw =>
    obtain ⟨j, want'⟩ := jw
    rw [hog] at hg
    simp only [okGuard, Bool.and_eq_true] at hg
    obtain ⟨h1, h2⟩ := hg
    have h1' : want' = want := by simpa using h1
    subst h1'
    cases hd : (ops[j]?).bind (·.dst) with
    | none => rw [hd] at h2; cases h2
    | some t' =>
      rw [hd] at h2
      have h2' : t' = tc := by simpa [Nat.beq_eq] using h2
      subst h2'
      have hv := ha.look t' _ hc
      have hget : a.tmps[t']? = some (.bool c) := by
        rw [Array.getD_eq_getD_getElem?] at hv
        cases he : a.tmps[t']? with
        | none => rw [he] at hv; simp [undef] at hv
        | some u => rw [he] at hv; simp at hv; rw [hv]
      simp only [Region.wanted, hog, yielded, hd, Option.bind_some, hget]
      cases c <;> cases want' <;> rfl

section
variable {C : Cfg} {t : TS} {m : List Chunk} {kn : KN} {r : List IOpr} {op : IOp}

/-- An operation with an effect: what there is behind it. -/
def EF (C : Cfg) (m : List Chunk) (t : TS) (d : Option Nat) (op : IOp) (K : KN) : Prop :=
  ∀ (o : Oper), okOp C.P o op = true → okD C.n o.dst d = true → ∀ a, SatT C.n t a → ∀ w, Sat C.W0 C.S m w → o.wp C.P a w (fun a' w' => ∃ t' m', K t' m' ∧ SatT C.n t' a' ∧ Sat C.W0 C.S m' w') (fun _ _ _ => False)

theorem wp_noQ {P : Program} {o : Oper} {a : Act} {w : World} {K : Act → World → Prop} {Q : Exit → Act → World → Prop} (h : o.wp P a w K (fun _ _ _ => False)) : o.wp P a w K Q := by
  unfold Oper.wp at *
  generalize (execOp a.eval o).run P w = r at *
  cases r with
  | ok n w' =>
    cases n <;> simp only [Oper.upon] at h ⊢ <;> first
      | exact h
      | exact Calls.mono h (fun e w'' he => by
          cases e with
          | returned v => exact he
          | panicked c => exact he.elim
          | outgrown => obtain ⟨_, _, h⟩ := he; exact h.elim)
  | halt x w' => cases x <;> simp only [Oper.upon] at h ⊢ <;> first | exact h.elim | exact h

theorem wl_e {d : Option Nat} (h : EF C m t d op (fun t' m' => WL C r t' m' kn)) : WL C (⟨d, none, op⟩ :: r) t m kn := by
  intro ops lo hok Q a w ha hw hc
  cases lo with
  | nil => simp [okL] at hok
  | cons o lo =>
    simp only [okL, Bool.and_eq_true] at hok
    obtain ⟨⟨⟨hd, hg⟩, ho⟩, hr⟩ := hok
    have hg' := okGuard_none hg
    unfold wpList
    rw [if_pos (wanted_none hg')]
    left
    refine Oper.wp_mono ?_ (wp_noQ (h o ho hd a ha w hw))
    rintro a' w' ⟨t', m', hk, ha', hw'⟩
    exact hk ops lo hr Q a' w' ha' hw' hc

/-- Operation o yields v in every world of the class, leaving what there is; or it goes by. -/
def YS (P : Program) (ops : Array Oper) (D : World → Prop) (o : Oper) (v : Value) (a : Act) : Prop :=
  (Region.wanted o (yielded ops a.tmps) = true ∧ ∀ w, D w → o.quietAt P a (fun w' => Below w.heap.size w w') w v) ∨
  (Region.wanted o (yielded ops a.tmps) = false ∧ v = undef)

/-- Quiet operations, one behind the other, from any of a set of frames. -/
def QRun (P : Program) (ops : Array Oper) (D : World → Prop) : List Oper → (Act → Prop) → (Act → Prop) → Prop
  | [], A, K => ∀ a, A a → K a
  | o :: r, A, K => ∃ v, (∀ a, A a → YS P ops D o v a) ∧ QRun P ops D r (fun a' => ∃ a, A a ∧ a' = a.put o.dst v) K

def QR (C : Cfg) (m : List Chunk) (t : TS) (l : List IOpr) (pre pre' : TS) : Prop :=
  ∀ (ops : Array Oper) (lo : List Oper), okL C.P C.n ops lo l = true → QRun C.P ops (Sat C.W0 C.S m) lo (SatT C.n (pre ++ t)) (SatT C.n (pre' ++ t))

theorem QRun.mono {P : Program} {ops : Array Oper} {D : World → Prop} {K K' : Act → Prop} (hK : ∀ a, K a → K' a) : ∀ {l : List Oper} {A : Act → Prop}, QRun P ops D l A K → QRun P ops D l A K'
  | [], _, h => fun a ha => hK _ (h a ha)
  | _ :: _, _, ⟨v, h1, h2⟩ => ⟨v, h1, QRun.mono hK h2⟩
theorem QRun.sub {P : Program} {ops : Array Oper} {D : World → Prop} {K : Act → Prop} : ∀ {l : List Oper} {A A' : Act → Prop}, (∀ a, A' a → A a) → QRun P ops D l A K → QRun P ops D l A' K
  | [], _, _, hA, h => fun a ha => h _ (hA a ha)
  | _ :: _, _, _, hA, ⟨v, h1, h2⟩ => ⟨v, fun a ha => h1 a (hA a ha), QRun.sub (fun a' ⟨a, ha, e⟩ => ⟨a, hA a ha, e⟩) h2⟩
theorem QRun.append {P : Program} {ops : Array Oper} {D : World → Prop} {K1 K : Act → Prop} : ∀ {l1 l2 : List Oper} {A : Act → Prop}, QRun P ops D l1 A K1 → QRun P ops D l2 K1 K → QRun P ops D (l1 ++ l2) A K
  | [], _, _, h1, h2 => QRun.sub h1 h2
  | _ :: _, _, _, ⟨v, h1, h2⟩, h3 => ⟨v, h1, QRun.append h2 h3⟩

theorem okL_append {P : Program} {n : Nat} {ops : Array Oper} : ∀ {l1 l2 : List IOpr} {lo : List Oper}, okL P n ops lo (l1 ++ l2) = true → ∃ lo1 lo2, lo = lo1 ++ lo2 ∧ okL P n ops lo1 l1 = true ∧ okL P n ops lo2 l2 = true
  | [], l2, lo, h => ⟨[], lo, rfl, rfl, h⟩
  | i :: l1, l2, lo, h => by
    cases lo with
    | nil => simp [okL] at h
    | cons o lo =>
      simp only [List.cons_append, okL, Bool.and_eq_true] at h
      obtain ⟨h1, h2⟩ := h
      obtain ⟨lo1, lo2, rfl, h3, h4⟩ := okL_append h2
      exact ⟨o :: lo1, lo2, rfl, by simp only [okL, Bool.and_eq_true]; exact ⟨h1, h3⟩, h4⟩

theorem qr_nil {pre : TS} : QR C m t [] pre pre := by
  intro ops lo hok
  cases lo with
  | nil => exact fun a ha => ha
  | cons o lo => simp [okL] at hok
theorem qr_append {l1 l2 : List IOpr} {pre pre1 pre2 : TS} (h1 : QR C m t l1 pre pre1) (h2 : QR C m t l2 pre1 pre2) : QR C m t (l1 ++ l2) pre pre2 := by
  intro ops lo hok
  obtain ⟨lo1, lo2, rfl, ok1, ok2⟩ := okL_append hok
  exact QRun.append (h1 ops lo1 ok1) (h2 ops lo2 ok2)
theorem qr_op {d : Nat} {pre pre' : TS} (v : Value) (h1 : Q1 C m (pre ++ t) op v) (h : QR C m t r ((d, v) :: pre) pre') : QR C m t (⟨some d, none, op⟩ :: r) pre pre' := by
  intro ops lo hok
  cases lo with
  | nil => simp [okL] at hok
  | cons o lo =>
    simp only [okL, Bool.and_eq_true] at hok
    obtain ⟨⟨⟨hd, hg⟩, ho⟩, hr⟩ := hok
    obtain ⟨hd1, hd2⟩ := okD_some hd
    refine ⟨v, fun a ha => .inl ⟨wanted_none (okGuard_none hg), fun w hw => h1 o ho a ha w hw⟩, ?_⟩
    rw [hd1]
    exact QRun.sub (fun a' ⟨a, ha, e⟩ => e ▸ ha.put hd2 v) (h ops lo hr)
theorem qr_gop {d tc : Nat} {want : Bool} {pre pre' : TS} (v : Value) (hc : look (pre ++ t) tc = some (.bool want)) (h1 : Q1 C m (pre ++ t) op v) (h : QR C m t r ((d, v) :: pre) pre') : QR C m t (⟨some d, some (tc, want), op⟩ :: r) pre pre' := by
  intro ops lo hok
  cases lo with
  | nil => simp [okL] at hok
  | cons o lo =>
    simp only [okL, Bool.and_eq_true] at hok
    obtain ⟨⟨⟨hd, hg⟩, ho⟩, hr⟩ := hok
    obtain ⟨hd1, hd2⟩ := okD_some hd
    refine ⟨v, fun a ha => .inl ⟨by rw [wanted_guard hg ha hc]; simp, fun w hw => h1 o ho a ha w hw⟩, ?_⟩
    rw [hd1]
    exact QRun.sub (fun a' ⟨a, ha, e⟩ => e ▸ ha.put hd2 v) (h ops lo hr)

/-- All of these are passed by where the temporaries g do not say what is wanted. -/
def skipOk (want : Bool) : List (Nat × Bool) → List IOpr → Bool
  | _, [] => true
  | g, i :: r => match i.d, i.g with
    | some d, some (tc, w) => g.any (fun p => Nat.beq p.1 tc && (p.2 == w)) && skipOk want ((d, true) :: (d, false) :: g) r
    | _, _ => false

def dsts : List IOpr → List Nat
  | [] => []
  | i :: r => match i.d with
    | some d => d :: dsts r
    | none => dsts r
def freshB (t : TS) (l : List Nat) : Bool := l.all fun d => (look t d).isNone

theorem unwanted {ops : Array Oper} {o : Oper} {tc : Nat} {want : Bool} {a : Act} (hg : okGuard ops o.guard (some (tc, want)) = true)
    (hc : a.tmps.getD tc undef ≠ .bool want) : Region.wanted o (yielded ops a.tmps) = false := by
  cases hog : o.guard with
  | none => rw [hog] at hg; simp [okGuard] at hg
  | some jw =>
    obtain ⟨j, want'⟩ := jw
    rw [hog] at hg
    simp only [okGuard, Bool.and_eq_true] at hg
    obtain ⟨h1, h2⟩ := hg
    have h1' : want' = want := by simpa using h1
    subst h1'
    cases hd : (ops[j]?).bind (·.dst) with
    | none => rw [hd] at h2; cases h2
    | some t' =>
      rw [hd] at h2
      have h2' : t' = tc := by simpa [Nat.beq_eq] using h2
      subst h2'
      simp only [Region.wanted, hog, yielded, hd, Option.bind_some]
      cases he : a.tmps[t']? with
      | none => rfl
      | some u =>
        rw [Array.getD_eq_getD_getElem?, he] at hc
        cases u <;> first | rfl | skip
        rename_i b
        simp only [Option.getD_some, ne_eq, Value.bool.injEq] at hc
        cases b <;> cases want' <;> simp_all

/-- What is left of a frame where operations went by. -/
def Kept (n : Nat) (l : List Nat) (a a' : Act) : Prop := a'.tmps.size = n ∧ a'.defers = [] ∧ ∀ j, j ∉ l → a'.tmps.getD j undef = a.tmps.getD j undef

theorem skip_run {ops : Array Oper} {D : World → Prop} {want : Bool} : ∀ (l : List IOpr) (g : List (Nat × Bool)) (lo : List Oper) (A : Act → Prop), okL C.P C.n ops lo l = true → skipOk want g l = true →
    (∀ a, A a → (∀ p ∈ g, a.tmps.getD p.1 undef ≠ .bool p.2) ∧ a.tmps.size = C.n ∧ a.defers = []) →
    QRun C.P ops D lo A (fun a' => ∃ a, A a ∧ Kept C.n (dsts l) a a')
  | [], g, lo, A, hok, _, hA => by
    cases lo with
    | nil => exact fun a ha => ⟨a, ha, (hA a ha).2.1, (hA a ha).2.2, fun _ _ => rfl⟩
    | cons o lo => simp [okL] at hok
  | i :: r, g, lo, A, hok, hsk, hA => by
    cases lo with
    | nil => simp [okL] at hok
    | cons o lo =>
      obtain ⟨di, gi, opi⟩ := i
      simp only [okL, Bool.and_eq_true] at hok
      obtain ⟨⟨⟨hd, hgd⟩, ho⟩, hr⟩ := hok
      simp only [skipOk] at hsk
      split at hsk
      · rename_i _ _ d tc w
        simp only [Bool.and_eq_true] at hsk
        obtain ⟨hsk1, hsk2⟩ := hsk
        obtain ⟨hd1, hd2⟩ := okD_some hd
        have hun : ∀ a, A a → Region.wanted o (yielded ops a.tmps) = false := by
          intro a ha
          obtain ⟨p, hp, hpe⟩ := List.any_eq_true.1 hsk1
          simp only [Bool.and_eq_true, Nat.beq_eq, beq_iff_eq] at hpe
          obtain ⟨q1, q2⟩ := hpe
          have := (hA a ha).1 p hp
          rw [q1, q2] at this
          exact unwanted hgd this
        refine ⟨undef, fun a ha => .inr ⟨hun a ha, rfl⟩, ?_⟩
        rw [hd1]
        have hget : ∀ a, A a → ∀ j, (a.put (some d) undef).tmps.getD j undef = if j = d then undef else a.tmps.getD j undef := fun a ha j => getD_set (by rw [(hA a ha).2.1]; exact hd2)
        refine QRun.mono ?_ (skip_run r ((d, true) :: (d, false) :: g) lo _ hr hsk2 ?_)
        · rintro a' ⟨a1, ⟨a, ha, rfl⟩, h1, h2, h3⟩
          refine ⟨a, ha, h1, h2, fun j hj => ?_⟩
          simp only [dsts, List.mem_cons, not_or] at hj
          rw [h3 j hj.2, hget a ha, if_neg hj.1]
        · rintro a1 ⟨a, ha, rfl⟩
          refine ⟨?_, by simp [Act.put, (hA a ha).2.1], (hA a ha).2.2⟩
          intro p hp
          rw [hget a ha]
          by_cases e : p.1 = d
          · rw [if_pos e]; simp [undef]
          · rw [if_neg e]
            simp only [List.mem_cons] at hp
            rcases hp with rfl | rfl | hp
            · exact absurd rfl e
            · exact absurd rfl e
            · exact (hA a ha).1 p hp
      · cases hsk

def keysFresh (pre t : TS) : Bool := pre.all fun p => (look t p.1).isNone

theorem look_append {pre t : TS} {j : Nat} {u : Value} (hk : keysFresh pre t = true) (h : look t j = some u) : look (pre ++ t) j = some u := by
  induction pre with
  | nil => exact h
  | cons p r ih =>
    simp only [keysFresh, List.all_cons, Bool.and_eq_true] at hk
    simp only [Sx.look, List.cons_append]
    by_cases e : Nat.beq p.1 j = true
    · rw [Nat.beq_eq] at e; subst e
      rw [h] at hk; simp at hk
    · rw [Bool.not_eq_true] at e; rw [e, cond_false]; exact ih hk.2
theorem freshB_not {t : TS} {l : List Nat} {j : Nat} {u : Value} (hf : freshB t l = true) (h : look t j = some u) : j ∉ l := by
  intro hj
  have := List.all_eq_true.1 hf j hj
  rw [h] at this; simp at this

theorem pick_q1 {t : TS} {tc : Operand} {a b : Operand} {c : Bool} {u v : Value} (hc : ev t tc = some (.bool c)) (ha : c = true → ev t a = some v) (hb : c = false → ev t b = some v) : Q1 C m t (.pick tc a b) v := by
  intro o ho act hact w hw
  simp only [okOp] at ho
  split at ho
  · rename_i c' a' b' heq
    simp only [Bool.and_eq_true] at ho
    obtain ⟨⟨h1, h2⟩, h3⟩ := ho
    have h1 := oeq_sound h1; have h2 := oeq_sound h2; have h3 := oeq_sound h3
    subst h1; subst h2; subst h3
    have e1 := hact.ev hc
    unfold Oper.quietAt
    simp only [execOp, heq, e1, asBool, Sem.run_bind, Sem.run_pure, Result.andThen_ok]
    cases c
    · simp [Oper.quietUpon, hact.ev (hb rfl)]
    · simp [Oper.quietUpon, hact.ev (ha rfl)]
  · cases ho

/-- '&&', '||': the group runs or goes by, the choice behind it is made: one truth value for both ways. -/
theorem qr_lg {or : Bool} {tc d : Nat} {g : Option (Nat × Bool)} {grp : List IOpr} {y : Operand} {c v : Bool} {pre pre1 : TS} (hc : look (pre ++ t) tc = some (.bool c))
    (hg : ∀ p, g = some p → look (pre ++ t) p.1 = some (.bool p.2))
    (hsk : skipOk true [(tc, !or)] grp = true) (hfr : freshB (pre ++ t) (dsts grp) = true) (hk : keysFresh pre1 (pre ++ t) = true)
    (hrun : c = !or → QR C m ((tc, .bool (!or)) :: (pre ++ t)) grp [] pre1) (hy : c = !or → ev (pre1 ++ ((tc, .bool (!or)) :: (pre ++ t))) y = some (.bool v)) :
    QR C m t (grp ++ [⟨some d, g, bif or then .pick (.tmp tc) (.const (.bool true)) y else .pick (.tmp tc) y (.const (.bool false))⟩]) pre ((d, .bool (bif or then c || v else c && v)) :: pre) := by
  intro ops lo hok
  obtain ⟨lo1, lo2, rfl, ok1, ok2⟩ := okL_append hok
  have last : ∀ (t' : TS), (∀ j u, look (pre ++ t) j = some u → look t' j = some u) → look t' tc = some (.bool c) → (c = !or → ev t' y = some (.bool v)) →
      QRun C.P ops (Sat C.W0 C.S m) lo2 (SatT C.n t') (SatT C.n (((d, .bool (bif or then c || v else c && v)) :: pre) ++ t)) := by
    intro t' hsub htc hyv
    cases lo2 with
    | nil => simp [okL] at ok2
    | cons o lo2 =>
      simp only [okL, Bool.and_eq_true] at ok2
      obtain ⟨⟨⟨hd, hgd⟩, ho⟩, hr⟩ := ok2
      cases lo2 with
      | cons _ _ => simp [okL] at hr
      | nil =>
        obtain ⟨hd1, hd2⟩ := okD_some hd
        refine ⟨.bool (bif or then c || v else c && v), fun a' ha' => .inl ⟨?_, fun w hw => ?_⟩, ?_⟩
        · cases g with
          | none => exact wanted_none (okGuard_none hgd)
          | some p => rw [wanted_guard (want := p.2) (tc := p.1) hgd ha' (hsub _ _ (hg p rfl))]; simp
        · cases or with
          | true =>
            refine pick_q1 (C := C) (m := m) (u := .bool true) (t := t') (tc := .tmp tc) (a := .const (.bool true)) (b := y) htc ?_ ?_ o ho a' ha' w hw
            · intro e; subst e; rfl
            · intro e; subst e; simpa using hyv rfl
          | false =>
            refine pick_q1 (C := C) (m := m) (u := .bool true) (t := t') (tc := .tmp tc) (a := y) (b := .const (.bool false)) htc ?_ ?_ o ho a' ha' w hw
            · intro e; subst e; simpa using hyv rfl
            · intro e; subst e; rfl
        · rw [hd1]
          rintro a1 ⟨a', ha', rfl⟩
          exact (ha'.put hd2 _).drop (by
            intro j u hj
            simp only [List.cons_append, Sx.look] at hj ⊢
            by_cases e : Nat.beq d j = true
            · rw [e, cond_true] at hj ⊢; exact hj
            · rw [Bool.not_eq_true] at e; rw [e, cond_false] at hj ⊢; exact hsub j u hj)
  by_cases hcw : c = !or
  · have ha1 : ∀ a, SatT C.n (pre ++ t) a → SatT C.n ([] ++ ((tc, .bool (!or)) :: (pre ++ t))) a := fun a ha => ha.drop (by
      intro j u hj
      simp only [List.nil_append, Sx.look] at hj
      by_cases e : Nat.beq tc j = true
      · rw [e, cond_true] at hj
        rw [Nat.beq_eq] at e; subst e
        rw [hc, hcw]; exact hj
      · rw [Bool.not_eq_true] at e; rw [e, cond_false] at hj; exact hj)
    have hkk : ∀ j u, look (pre ++ t) j = some u → look (pre1 ++ ((tc, .bool (!or)) :: (pre ++ t))) j = some u := by
      intro j u hj
      have h2 : look ((tc, .bool (!or)) :: (pre ++ t)) j = some u := by
        simp only [Sx.look]
        by_cases e : Nat.beq tc j = true
        · rw [e, cond_true]
          rw [Nat.beq_eq] at e; subst e
          rw [hc, hcw] at hj; exact hj
        · rw [Bool.not_eq_true] at e; rw [e, cond_false]; exact hj
      refine look_append ?_ h2
      refine List.all_eq_true.2 fun p hp => ?_
      have h3 := List.all_eq_true.1 hk p hp
      simp only [Sx.look]
      by_cases e : Nat.beq tc p.1 = true
      · rw [Nat.beq_eq] at e; subst e
        rw [hc] at h3; simp at h3
      · rw [Bool.not_eq_true] at e; rw [e, cond_false]; exact h3
    exact QRun.append (QRun.sub ha1 (hrun hcw ops lo1 ok1)) (last _ hkk (hkk tc _ hc) hy)
  · refine QRun.append (skip_run grp [(tc, !or)] lo1 _ ok1 hsk ?_) (QRun.sub ?_ (last (pre ++ t) (fun _ _ h => h) hc (fun e => absurd e hcw)))
    · intro a ha
      refine ⟨?_, ha.size, ha.defers⟩
      intro p hp
      simp only [List.mem_singleton] at hp
      subst hp
      rw [ha.look tc _ hc]
      intro e; injection e with e; exact hcw e
    · rintro a' ⟨a, ha, h1, h2, h3⟩
      refine ⟨h1, h2, fun j u hj => ?_⟩
      rw [h3 j (freshB_not hfr hj)]
      exact ha.look j u hj

/-- Quiet operations ahead of others. -/
theorem wl_run {l1 l2 : List IOpr} {pre : TS} (h1 : QR C m t l1 [] pre) (h2 : WL C l2 (pre ++ t) m kn) : WL C (l1 ++ l2) t m kn := by
  intro ops lo hok Q a w ha hw hc
  obtain ⟨lo1, lo2, rfl, ok1, ok2⟩ := okL_append hok
  have key : ∀ (l : List Oper) (A : Act → Prop), QRun C.P ops (Sat C.W0 C.S m) l A (SatT C.n (pre ++ t)) → ∀ a w, A a → Sat C.W0 C.S m w → wpList C.P ops Q (l ++ lo2) a w := by
    intro l
    induction l with
    | nil => intro A hr a w hA hw; exact h2 ops lo2 ok2 Q a w (hr a hA) hw hc
    | cons o l ih =>
      intro A hr a w hA hw
      obtain ⟨v, h1, h2⟩ := hr
      rw [List.cons_append]
      unfold wpList
      rcases h1 a hA with ⟨h3, h4⟩ | ⟨h3, rfl⟩
      · rw [if_pos h3]; left
        exact wp_of_quietAt (h4 w hw) (Below.refl _ _) (fun w' hb => ih _ h2 _ w' ⟨a, hA, rfl⟩ (hw.of_below hb))
      · rw [if_neg (by rw [h3]; simp)]
        exact ih _ h2 _ w ⟨a, hA, rfl⟩ hw
  exact key lo1 _ (h1 ops lo1 ok1) a w (by simpa using ha) hw

/-! ### The same, at the items -/

def WJ (C : Cfg) (l : List J) (t : TS) (m : List Chunk) (kn : KN) : Prop := WL C (J.flatL l) t m kn
def QJ (C : Cfg) (m : List Chunk) (t : TS) (l : List J) (pre pre' : TS) : Prop := QR C m t (J.flatL l) pre pre'

theorem wj_nil (h : kn t m) : WJ C [] t m kn := by
  unfold WJ; rw [J.flatL]; exact wl_nil h
theorem wj_q {d : Nat} {r : List J} (v : Value) (h1 : Q1 C m t op v) (h : WJ C r ((d, v) :: t) m kn) : WJ C (.op ⟨some d, none, op⟩ :: r) t m kn := by
  unfold WJ at *; rw [J.flatL, J.flat]
  exact wl_run (l1 := [⟨some d, none, op⟩]) (pre := [(d, v)]) (qr_op v h1 qr_nil) h
theorem wj_e {d : Option Nat} {r : List J} (h : EF C m t d op (fun t' m' => WJ C r t' m' kn)) : WJ C (.op ⟨d, none, op⟩ :: r) t m kn := by
  unfold WJ at *; rw [J.flatL, J.flat]
  exact wl_e h
theorem wj_or {tc d : Nat} {grp r : List J} {y : Operand} {c v : Bool} {pre : TS} (hc : look t tc = some (.bool c))
    (hsk : skipOk true [(tc, false)] (J.flatL grp) = true) (hfr : freshB t (dsts (J.flatL grp)) = true)
    (hrun : c = false → QJ C m ((tc, .bool false) :: t) grp [] pre) (hy : c = false → ev (pre ++ ((tc, .bool false) :: t)) y = some (.bool v)) (hk : keysFresh pre t = true)
    (h : WJ C r ((d, .bool (c || v)) :: t) m kn) : WJ C (.lg true tc d none grp y :: r) t m kn := by
  unfold WJ QJ at *; rw [J.flatL, J.flat]
  exact wl_run (pre := [(d, .bool (c || v))]) (qr_lg (or := true) (pre := []) (c := c) (v := v) hc (fun _ h => by cases h) hsk hfr hk hrun hy) h
theorem wj_and {tc d : Nat} {grp r : List J} {y : Operand} {c v : Bool} {pre : TS} (hc : look t tc = some (.bool c))
    (hsk : skipOk true [(tc, true)] (J.flatL grp) = true) (hfr : freshB t (dsts (J.flatL grp)) = true)
    (hrun : c = true → QJ C m ((tc, .bool true) :: t) grp [] pre) (hy : c = true → ev (pre ++ ((tc, .bool true) :: t)) y = some (.bool v)) (hk : keysFresh pre t = true)
    (h : WJ C r ((d, .bool (c && v)) :: t) m kn) : WJ C (.lg false tc d none grp y :: r) t m kn := by
  unfold WJ QJ at *; rw [J.flatL, J.flat]
  exact wl_run (pre := [(d, .bool (c && v))]) (qr_lg (or := false) (pre := []) (c := c) (v := v) hc (fun _ h => by cases h) hsk hfr hk hrun hy) h
theorem qj_nil {pre : TS} : QJ C m t [] pre pre := by
  unfold QJ; rw [J.flatL]; exact qr_nil
theorem qj_q {d : Nat} {r : List J} {pre pre' : TS} (v : Value) (h1 : Q1 C m (pre ++ t) op v) (h : QJ C m t r ((d, v) :: pre) pre') : QJ C m t (.op ⟨some d, none, op⟩ :: r) pre pre' := by
  unfold QJ at *; rw [J.flatL, J.flat]
  exact qr_op v h1 h
theorem qj_g {d tc : Nat} {want : Bool} {r : List J} {pre pre' : TS} (hc : look (pre ++ t) tc = some (.bool want)) (v : Value) (h1 : Q1 C m (pre ++ t) op v) (h : QJ C m t r ((d, v) :: pre) pre') :
    QJ C m t (.op ⟨some d, some (tc, want), op⟩ :: r) pre pre' := by
  unfold QJ at *; rw [J.flatL, J.flat]
  exact qr_gop v hc h1 h
theorem qj_or {tc d : Nat} {g : Option (Nat × Bool)} {grp r : List J} {y : Operand} {c v : Bool} {pre pre1 pre' : TS} (hc : look (pre ++ t) tc = some (.bool c))
    (hg : ∀ p, g = some p → look (pre ++ t) p.1 = some (.bool p.2))
    (hsk : skipOk true [(tc, false)] (J.flatL grp) = true) (hfr : freshB (pre ++ t) (dsts (J.flatL grp)) = true)
    (hrun : c = false → QJ C m ((tc, .bool false) :: (pre ++ t)) grp [] pre1) (hy : c = false → ev (pre1 ++ ((tc, .bool false) :: (pre ++ t))) y = some (.bool v)) (hk : keysFresh pre1 (pre ++ t) = true)
    (h : QJ C m t r ((d, .bool (c || v)) :: pre) pre') : QJ C m t (.lg true tc d g grp y :: r) pre pre' := by
  unfold QJ at *; rw [J.flatL, J.flat]
  exact qr_append (qr_lg (or := true) (c := c) (v := v) hc hg hsk hfr hk hrun hy) h
theorem qj_and {tc d : Nat} {g : Option (Nat × Bool)} {grp r : List J} {y : Operand} {c v : Bool} {pre pre1 pre' : TS} (hc : look (pre ++ t) tc = some (.bool c))
    (hg : ∀ p, g = some p → look (pre ++ t) p.1 = some (.bool p.2))
    (hsk : skipOk true [(tc, true)] (J.flatL grp) = true) (hfr : freshB (pre ++ t) (dsts (J.flatL grp)) = true)
    (hrun : c = true → QJ C m ((tc, .bool true) :: (pre ++ t)) grp [] pre1) (hy : c = true → ev (pre1 ++ ((tc, .bool true) :: (pre ++ t))) y = some (.bool v)) (hk : keysFresh pre1 (pre ++ t) = true)
    (h : QJ C m t r ((d, .bool (c && v)) :: pre) pre') : QJ C m t (.lg false tc d g grp y :: r) pre pre' := by
  unfold QJ at *; rw [J.flatL, J.flat]
  exact qr_append (qr_lg (or := false) (c := c) (v := v) hc hg hsk hfr hk hrun hy) h
end

/-! ### Code -/
section
variable {C : Cfg} {t : TS} {m : List Chunk} {kn : KN} {ke : KE}

theorem wc_skip (h : kn t m) : WC C .skip t m kn ke := by
  intro hm c0 hok Q a w ha hw hc
  cases c0 <;> first | (exact wp_skip (hc.n t m h a w ha hw)) | (simp [okC] at hok)
theorem wc_ret (h : ke.ret t m) : WC C .ret t m kn ke := by
  intro hm c0 hok Q a w ha hw hc
  cases c0 <;> first | (exact wp_ret (hc.r t m h a w ha hw)) | (simp [okC] at hok)
theorem wc_exit {id : Nat} (k : KN) (hk : lookK ke.brk id = some k) (h : k t m) : WC C (.exit id) t m kn ke := by
  intro hm c0 hok Q a w ha hw hc
  cases c0 <;> first | (simp [okC] at hok; done) | skip
  rename_i id'
  simp only [okC, Nat.beq_eq] at hok
  subst hok
  exact wp_exit (hc.b id' k hk t m h a w ha hw)
theorem wc_ops {l : List J} (h : WJ C l t m kn) : WC C (.ops l) t m kn ke := by
  intro hm c0 hok Q a w ha hw hc
  cases c0 <;> first | (simp [okC] at hok; done) | skip
  rename_i id ops draw
  simp only [okC, Bool.and_eq_true, Bool.not_eq_true'] at hok
  obtain ⟨h1, h2⟩ := hok
  subst h2
  exact wp_region_list (h ops ops.toList h1 Q a w ha hw hc.n)
theorem wc_seq {x y : IC} (h : WC C x t m (fun t m => WC C y t m kn ke) ke) : WC C (.seq x y) t m kn ke := by
  intro hm c0 hok Q a w ha hw hc
  cases c0 <;> first | (simp [okC] at hok; done) | skip
  rename_i x0 y0
  simp only [okC, Bool.and_eq_true] at hok
  refine wp_seq (h hm x0 hok.1 _ a w ha hw ⟨?_, ?_, ?_⟩)
  · intro t' m' h' a' w' ha' hw'
    exact h' hm y0 hok.2 Q a' w' ha' hw' hc
  · exact hc.b
  · exact hc.r
theorem wc_if {x : Operand} {c : Bool} {p q : IC} (hx : ev t x = some (.bool c)) (ht : c = true → WC C p t m kn ke) (hf : c = false → WC C q t m kn ke) : WC C (.cond x p q) t m kn ke := by
  intro hm c0 hok Q a w ha hw hc
  cases c0 <;> first | (simp [okC] at hok; done) | skip
  rename_i x0 p0 q0
  simp only [okC, Bool.and_eq_true] at hok
  obtain ⟨⟨h1, h2⟩, h3⟩ := hok
  have hx0 := oeq_sound h1
  subst hx0
  refine wp_cond (t := c) (ha.ev hx) ?_
  cases c
  · exact hf rfl hm q0 h3 Q a w ha hw hc
  · exact ht rfl hm p0 h2 Q a w ha hw hc
theorem wc_block {id : Nat} {c : IC} (h : WC C c t m kn ⟨(id, kn) :: ke.brk, ke.ret⟩) : WC C (.block id c) t m kn ke := by
  intro hm c0 hok Q a w ha hw hc
  cases c0 <;> first | (simp [okC] at hok; done) | skip
  rename_i id0 c1
  simp only [okC, Bool.and_eq_true, Nat.beq_eq] at hok
  obtain ⟨h1, h2⟩ := hok
  subst h1
  refine wp_block (h hm c1 h2 _ a w ha hw ⟨hc.n, ?_, hc.r⟩)
  intro id' k hk t' m' h' a' w' ha' hw'
  simp only [lookK] at hk
  simp only [Exit.inBlock]
  by_cases e : Nat.beq id0 id' = true
  · rw [e, cond_true] at hk
    rw [Nat.beq_eq] at e; subst e
    rw [if_pos rfl]
    injection hk with hk; subst hk
    exact hc.n t' m' h' a' w' ha' hw'
  · rw [Bool.not_eq_true] at e; rw [e, cond_false] at hk
    rw [if_neg (by intro e'; subst e'; rw [Nat.beq_refl] at e; cases e)]
    exact hc.b id' k hk t' m' h' a' w' ha' hw'

end

theorem wc_lbl {C : Cfg} {t : TS} {m : List Chunk} {kn : KN} {ke : KE} (h : kn t m) : WC C .lbl t m kn ke := by
  intro hm c0 hok Q a w ha hw hc
  cases c0 <;> first | (exact wp_label (hc.n t m h a w ha hw)) | (simp [okC] at hok)
theorem wc_scope {C : Cfg} {t : TS} {m : List Chunk} {kn : KN} {ke : KE} {c : IC} (h : WC C c t m kn ke) : WC C (.scope c) t m kn ke := by
  intro hm c0 hok Q a w ha hw hc
  cases c0 <;> first | (simp [okC] at hok; done) | skip
  rename_i c1
  simp only [okC] at hok
  exact wp_scope_straight (h hm c1 hok _ a w ha hw ⟨hc.n, hc.b, hc.r⟩)

/-- A loop whose measure hangs on what the invariant is told with. -/
theorem wp_loop_x {P : Program} {Q : Exit → Act → World → Prop} {c : Code} {X : Type} (I : X → Act → World → Prop) (μ : X → Nat) {x0 : X} {a : Act} {w : World} (h0 : I x0 a w)
    (round : ∀ x a w, I x a w → c.wp P (Exit.then (fun a' w' => ∃ y, I y a' w' ∧ μ y < μ x) Q) a w) : (Code.loop c).wp P Q a w := by
  intro b k cs
  have key : ∀ n x a w, μ x = n → I x a w → ∃ e a' w', Q e a' w' ∧ Arrives P (lone (b.at a (.code c :: .inLoop c :: k)) cs w) b k cs e a' w' := by
    intro n
    induction n using Nat.strongRecOn with
    | _ n ih =>
      intro x a w hn hI
      obtain ⟨e, a1, w1, hq, harr⟩ := round x a w hI b (.inLoop c :: k) cs
      cases e with
      | normal =>
        obtain ⟨y, hI1, hlt⟩ := hq
        obtain ⟨e2, a2, w2, hq2, harr2⟩ := ih (μ y) (hn ▸ hlt) y a1 w1 rfl hI1
        exact ⟨e2, a2, w2, hq2, .of_steps (Steps.trans harr (.one step_inLoop)) harr2⟩
      | exit id => exact ⟨_, a1, w1, hq, .pass (x := .inLoop c) rfl (fun _ _ => .inl (by simp)) harr⟩
      | goto l => exact ⟨_, a1, w1, hq, .pass (x := .inLoop c) rfl (fun _ _ => .inl (by simp)) harr⟩
      | ret => exact ⟨_, a1, w1, hq, .pass (x := .inLoop c) rfl (fun _ _ => .inl (by simp)) harr⟩
      | panic ch => exact ⟨_, a1, w1, hq, .pass (x := .inLoop c) rfl (fun _ _ => .inl (by simp)) harr⟩
      | outgrown => exact ⟨_, a1, w1, hq, .pass (x := .inLoop c) rfl (fun _ _ => .inl (by simp)) harr⟩
  obtain ⟨e, a', w', hq, harr⟩ := key _ x0 a w rfl h0
  exact ⟨e, a', w', hq, .of_steps (.one step_loop) harr⟩

section
variable {C : Cfg} {t : TS} {m : List Chunk} {kn : KN} {ke : KE}

/-- A loop, by an invariant over whatever type: what is told of the temporaries, the memory, and what holds. -/
theorem wc_loop {c : IC} {X : Type} (T : X → TS) (M : X → List Chunk) (I : X → Prop) (μ : X → Nat) (x0 : X)
    (h0 : I x0) (hT : ∀ j v, look (T x0) j = some v → look t j = some v) (hM : m = M x0)
    (round : ∀ x, I x → WC C c (T x) (M x) (fun t' m' => ∃ y, I y ∧ μ y < μ x ∧ (∀ j v, look (T y) j = some v → look t' j = some v) ∧ m' = M y) ke) : WC C (.loop c) t m kn ke := by
  intro hm c0 hok Q a w ha hw hc
  cases c0 <;> first | (simp [okC] at hok; done) | skip
  rename_i c1
  simp only [okC] at hok
  subst hM
  refine wp_loop_x (fun x a w => I x ∧ SatT C.n (T x) a ∧ Sat C.W0 C.S (M x) w) μ (x0 := x0) ⟨h0, ha.drop hT, hw⟩ ?_
  rintro x a w ⟨hI, ha, hw⟩
  refine round x hI hm c1 hok _ a w ha hw ⟨?_, hc.b, hc.r⟩
  rintro t' m' ⟨y, hy, hlt, hT', rfl⟩ a' w' ha' hw'
  exact ⟨y, ⟨hy, ha'.drop hT', hw'⟩, hlt⟩
end

/-! ### A call of the function -/

inductive RV where
  | tmp (j : Nat)
  | cell (j n : Nat) (ag : Bool)

def okR (P : Program) : List ResultVar → List RV → Bool
  | [], [] => true
  | .tmp j :: r, .tmp j' :: q => Nat.beq j j' && okR P r q
  | .cell j T :: r, .cell j' n ag :: q => Nat.beq j j' && (szOf P T == some n) && (aggOf P T == some ag) && okR P r q
  | _, _ => false

/-- The block of an address among the known ones. -/
inductive Has (b : Nat) (o : Obj) : List Chunk → Prop
  | here {m : List Chunk} : Has b o (⟨b, o⟩ :: m)
  | there {c : Chunk} {m : List Chunk} : Has b o m → Has b o (c :: m)
  | app {ms m : List Chunk} : Has b o m → Has b o (ms ++ m)
theorem Has.mem {b : Nat} {o : Obj} {m : List Chunk} (h : Has b o m) : (⟨b, o⟩ : Chunk) ∈ m := by
  induction h with
  | here => exact List.mem_cons_self
  | there _ ih => exact List.mem_cons_of_mem _ ih
  | app _ ih => exact List.mem_append_right _ ih

/-- What stands in a result variable. -/
inductive ResV (t : TS) (m : List Chunk) : RV → Value → Prop
  | tmp {j : Nat} {v : Value} : look t j = some v → ResV t m (.tmp j) v
  | one {j b : Nat} {T : TypeId} {s : List Seg} {v : Value} : look t j = some (.pointer (some ⟨b, 0, none⟩)) → Has b (.cells (cells s).toArray T (0, 0)) m → cellAt s 0 = some v → ResV t m (.cell j 1 false) v
  | agg {j b n : Nat} {T : TypeId} {s p : List Seg} : look t j = some (.pointer (some ⟨b, 0, none⟩)) → Has b (.cells (cells s).toArray T (0, 0)) m → sub s 0 n = some p → ResV t m (.cell j n true) (agg p)

inductive ResVs (t : TS) (m : List Chunk) : List RV → List Value → Prop
  | nil : ResVs t m [] []
  | cons {x : RV} {v : Value} {r : List RV} {l : List Value} : ResV t m x v → ResVs t m r l → ResVs t m (x :: r) (v :: l)

def tupV : List Value → Value
  | [v] => v
  | l => .tuple l.toArray

/-- What the result variables come to. -/
def retK (W0 : World) (S : List Nat) (rs : List RV) (R : Ending → World → Prop) : KN := fun t m => ∃ l, ResVs t m rs l ∧ ∀ w, Sat W0 S m w → R (.returned (tupV l)) w

end Go.Sx
