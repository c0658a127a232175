/- A part of the proof that the law FnSort answers true at every input that its row speaks of. Conditions: the row's own. -/
import Derived.Calls
import Derived.LoopN
import Derived.Orders
import Derived.RowKit
import Derived.Laws.AppendOwn
import Derived.Laws.MakeOwn
import Derived.Deep.Draws
import Derived.Below
import Derived.Laws.BytesArg
import Derived.Maps.AppendAt
import Derived.Laws.Entries
import Derived.Laws.OwnMore
import Derived.Laws.Slices
import Derived.Laws.Tables
import Derived.ChangeKeysEq
section
namespace Go.Proofs.YtcfeihimmboghaaGreatDoor.VI
open Go Go.RowKit
set_option linter.unusedSimpArgs false
set_option linter.unusedVariables false
inductive VV where
  | s (v : Value)
  | sl (xs : List VV)
  | ag (cs : List VV)
  | tu (vs : List VV)
  | pt (t off : Nat)
  | vw (cs : List VV)
  | cl (f : FuncId) (cap : List VV)
  | sr (t n : Nat)
  | pe (t : Nat) (i : Int) (sz : Nat)
  | ow (e : TypeId) (z : Nat) (xs : List VV)
  | nl
  | bx (cs : List VV)
  | mr (e : TypeId) (sz : Nat) (xs : List VV)
  | un
instance : Inhabited VV := ⟨.un⟩
namespace VV
def cells : VV → List VV
  | .ag cs => cs
  | v => [v]
def dv : VV → VV
  | .ow _ _ xs => .sl xs
  | .nl => .sl []
  | v => v
def int (n : Int) : VV := .s (.int .i64 n)
def byte (n : Int) : VV := .s (.int .u8 n)
def str (b : ByteArray) : VV := .s (.string b)
def bool (b : Bool) : VV := .s (.bool b)
end VV
inductive TK where
  | ptr
  | agg (fs : List (Nat × Nat))
  | slice (e : TypeId)
  | str
  | bool
  | int (k : IntKind)
structure TI where
  sz : Nat
  bytes : Nat
  zero : List Value
  k : TK
structure Cx where
  ti : TypeId → Option TI
  call : FuncId → List VV → Option (VV × List VV)
  m : Nat
def bite {α : Type} (b : Bool) (x y : Option α) : Option α := match b with
  | true => x
  | false => y
@[reducible] def must {α : Type} (b : Bool) (x : Option α) : Option α := match b with
  | true => x
  | false => none
def obind {α β : Type} (x : Option α) (f : α → Option β) : Option β := match x with
  | some a => f a
  | none => none
def vget {β : Type} (xs : List VV) (i : Int) (f : VV → Option β) : Option β := match xs[i.toNat]? with
  | some a => f a
  | none => none
theorem obind_some {α β : Type} {x : Option α} {f : α → Option β} {r : β} (h : obind x f = some r) : ∃ a, x = some a ∧ f a = some r := by
  cases x with
  | none => cases h
  | some a => exact ⟨a, rfl, h⟩
def byL : List VV → Option (List Int)
  | [] => some []
  | .s (.int .u8 n) :: r => obind (byL r) fun l => some (n :: l)
  | _ => none
abbrev Env := List VV
def put (dst : Option Nat) (v : VV) (env : Env) : Env := match dst with
  | some d => env.set d v
  | none => env
def frc1 {α : Type} (v : VV) (k : VV → α) : α := match v with
  | .s x => k (.s x)
  | .sl xs => k (.sl xs)
  | .ag cs => k (.ag cs)
  | .tu vs => k (.tu vs)
  | .pt t o => k (.pt t o)
  | .vw cs => k (.vw cs)
  | .cl f c => k (.cl f c)
  | .sr t n => k (.sr t n)
  | .pe t i z => k (.pe t i z)
  | .ow e z xs => k (.ow e z xs)
  | .nl => k .nl
  | .bx cs => k (.bx cs)
  | .mr e z xs => k (.mr e z xs)
  | .un => k .un
def frcL {α : Type} : List VV → (List VV → α) → α
  | [], k => k []
  | v :: r, k => frc1 v fun v' => frcL r fun r' => k (v' :: r')
def frc {α : Type} (v : VV) (k : VV → α) : α := match v with
  | .ag cs => frcL cs fun c => k (.ag c)
  | .tu vs => frcL vs fun c => k (.tu c)
  | .vw cs => frcL cs fun c => k (.vw c)
  | .cl f cs => frcL cs fun c => k (.cl f c)
  | .bx cs => frcL cs fun c => k (.bx c)
  | .s x => k (.s x)
  | .sl xs => k (.sl xs)
  | .pt t o => k (.pt t o)
  | .sr t n => k (.sr t n)
  | .pe t i z => k (.pe t i z)
  | .ow e z xs => k (.ow e z xs)
  | .nl => k .nl
  | .mr e z xs => k (.mr e z xs)
  | .un => k .un
def setK {α : Type} : Nat → VV → Env → (Env → α) → α
  | _, _, [], k => k []
  | 0, v, _ :: r, k => k (v :: r)
  | n + 1, v, a :: r, k => setK n v r fun r' => k (a :: r')
def nth : Env → Nat → VV
  | [], _ => .un
  | a :: _, 0 => a
  | _ :: r, n + 1 => nth r n
def view (t : Nat) : VV → VV
  | .ow _ _ xs => .sl xs
  | .nl => .sl []
  | .bx _ => .pt t 0
  | .mr _ _ xs => .sr t xs.length
  | v => v
def cellOk : VV → Bool
  | .s (.agg _) => false
  | .s (.tuple _) => false
  | .s _ => true
  | .sl _ => true
  | .ow _ _ _ => true
  | .nl => true
  | _ => false
def liftc : Value → VV
  | .slice none 0 0 => .sl []
  | v => .s v
def lift : Value → VV
  | .slice none 0 0 => .sl []
  | .agg cs => (match cs.toList.all Value.oneCell' with
    | true => .ag (cs.toList.map liftc)
    | false => .un)
  | v => .s v
def zcell : Value → VV
  | .slice none 0 0 => .nl
  | v => .s v
def get (env : Env) (t : Nat) : VV := nth env t
def rdv (env : Env) : Operand → VV
  | .tmp t => view t (get env t)
  | .const v => lift v
  | .func f => .cl f []
  | .global _ => .un
def feeds (ops : List Oper) (t : Nat) : Bool := ops.any fun o => match o.op with
  | .call c => match c.callee with
    | .builtin .append => match c.args.toList with
      | .tmp u :: _ => Nat.beq u t
      | _ => false
    | _ => false
  | _ => false
def hands (ops : List Oper) (t : Nat) : Bool := match ops with
  | [_, o] => (match o.op with
    | .assign (.tmp u) => Nat.beq u t
    | _ => false)
  | _ => false
def fd (ops : List Oper) (dst : Option Nat) : Bool := match dst with
  | some d => feeds ops d || hands ops d
  | none => false
def refers (t : Nat) : VV → Bool
  | .pt u _ => Nat.beq u t
  | .sr u _ => Nat.beq u t
  | .pe u _ _ => Nat.beq u t
  | _ => false
def kill (t : Nat) : VV → VV
  | .pt u o => if Nat.beq u t then .un else .pt u o
  | .sr u n => if Nat.beq u t then .un else .sr u n
  | .pe u i z => if Nat.beq u t then .un else .pe u i z
  | .cl f cap => if cap.any (refers t) then .un else .cl f cap
  | v => v
def wr : IntKind → Int → Int
  | .i64, n => wrap64 n
  | .u8, n => n % 256
  | k, n => k.wrap n
def vint (op : BinOp) (k : IntKind) (x y : Int) : Option (Bool × Value) := match op with
  | .add => some (true, .int k (wr k (x + y)))
  | .sub => some (true, .int k (wr k (x - y)))
  | .mul => some (true, .int k (wr k (x * y)))
  | .quo => some (decide (¬ y = 0), .int k (wr k (x.tdiv y)))
  | .rem => some (decide (¬ y = 0), .int k (x.tmod y))
  | .eql => some (true, .bool (x == y))
  | .neq => some (true, .bool (x != y))
  | .lss => some (true, .bool (decide (x < y)))
  | .leq => some (true, .bool (decide (x ≤ y)))
  | .gtr => some (true, .bool (decide (x > y)))
  | .geq => some (true, .bool (decide (x ≥ y)))
  | .shr => some (decide (0 ≤ y), .int k (x.fdiv (2 ^ (min y.toNat k.bits))))
  | .and => some (true, .int k (k.wrap (BitVec.ofInt k.bits x &&& BitVec.ofInt k.bits y).toNat))
  | .xor => some (true, .int k (k.wrap (BitVec.ofInt k.bits x ^^^ BitVec.ofInt k.bits y).toNat))
  | _ => none
def vstr (op : BinOp) (x y : ByteArray) : Option (Bool × Value) := match op with
  | .add => some (decide (x.size + y.size ≤ 9223372036854775807), .string (x ++ y))
  | .eql => some (true, .bool (x.toList == y.toList))
  | .neq => some (true, .bool (!(x.toList == y.toList)))
  | .lss => some (true, .bool (Op.bytesLess x.toList y.toList))
  | .leq => some (true, .bool (!(Op.bytesLess y.toList x.toList)))
  | .gtr => some (true, .bool (Op.bytesLess y.toList x.toList))
  | .geq => some (true, .bool (!(Op.bytesLess x.toList y.toList)))
  | _ => none
def vbin (tb : Bool) (op : BinOp) (a b : VV) : Option (Bool × Value) := match a, b with
  | .s (.int k x), .s (.int k' y) => if k = k' then vint op k x y else (match op with | .shr => vint op k x y | _ => none)
  | .s (.string x), .s (.string y) => vstr op x y
  | .s (.bool x), .s (.bool y) => match tb, op with
    | true, .eql => some (true, .bool (x == y))
    | true, .neq => some (true, .bool (!(x == y)))
    | _, _ => none
  | _, _ => none
def vun (op : UnOp) (a : VV) : Option Value := match op, a with
  | .not, .s (.bool b) => some (.bool (!b))
  | .neg, .s (.int k n) => some (.int k (wr k (0 - n)))
  | _, _ => none
def bt (s : ByteArray) (i : Int) : Int := if h : i.toNat < s.size then ((s[i.toNat]'h).toNat : Int) else 0
section
variable {R : Type} (C : Cx) (ops : List Oper) (dr : Option (List Nat))
def cellsAt (cs : List VV) (off n : Nat) : Option (List VV) := if ((cs.drop off).take n).length = n then some ((cs.drop off).take n) else none
def mkv (i : TI) (c : List VV) : VV := match i.k with
  | .agg _ => .ag (c.map VV.dv)
  | _ => (c.headD .un).dv
def vload (i : TI) (cs : List VV) (off : Nat) : Option VV := match cellsAt cs off i.sz with
  | some c => some (mkv i c)
  | none => none
def setCells {α : Type} (cs : List α) (off : Nat) : List α → List α
  | [] => cs
  | v :: r => setCells (cs.set off v) (off + 1) r
def plain : VV → Bool
  | .bx _ => false
  | .mr _ _ _ => false
  | _ => true
def plainAt (env : Env) : Option Nat → Bool
  | some d => plain (get env d)
  | none => true
def refersD (t : Nat) : VV → Bool
  | .cl _ cap => cap.any (refers t)
  | v => refers t v
def getB (dr : Option (List Nat)) (env : Env) (t : Nat) : VV := match dr with
  | some l => (match l.any (Nat.beq t) with
    | true => .un
    | false => get env t)
  | none => get env t
def drOk : VV → Bool
  | .pt _ _ => false
  | .cl _ cap => cap.all fun | .vw _ => true | _ => false
  | _ => true
def drArgs (dr : Option (List Nat)) (l : List VV) : Bool := match dr with
  | some _ => l.all drOk
  | none => true
def vset (t : Nat) (v : VV) (env : Env) (K : Env → Option R) : Option R := frc v fun v' => setK t v' env K
def vput (dst : Option Nat) (v : VV) (env : Env) (K : Env → Option R) : Option R := match dst with
  | none => K env
  | some d => (match dr with
    | some l => (match plain (get env d) && (plain v && l.all (fun t => !(refersD t v))) with
      | true => vset d v env K
      | false => none)
    | none => vset d v env K)
def vnew (d : Nat) (b : VV) (env : Env) (K : Env → Option R) : Option R := match dr with
  | some _ => (match env.any (refersD d) || !(plain (get env d)) with
    | false => vset d b env K
    | true => none)
  | none => frcL (env.map (kill d)) fun env' => vset d b env' K
def vmove (own : Bool) (dst : Option Nat) (x : Operand) (env : Env) (K : Env → Option R) : Option R := match x with
  | .tmp t => match get env t with
    | .ow e z xs => (match own with
      | true => vset t (.sl xs) env fun env' => vput dr dst (.ow e z xs) env' K
      | false => vput dr dst (.sl xs) env K)
    | .nl => (match own with
      | true => vput dr dst .nl env K
      | false => vput dr dst (.sl []) env K)
    | _ => vput dr dst (rdv env x) env K
  | .const (.slice none 0 0) => (match own with
      | true => vput dr dst .nl env K
      | false => vput dr dst (.sl []) env K)
  | _ => vput dr dst (rdv env x) env K
def vbnd : Option VV → Option (Option Int)
  | none => some none
  | some (.s (.int _ n)) => some (some n)
  | _ => none
def bndOk (n : Nat) (l h : Int) : Bool := decide (0 ≤ h) && decide (h ≤ (n : Int)) && (decide (0 ≤ l) && decide (l ≤ h))
def fillv (ti : TI) : List VV → List (Nat × VV) → Option (List VV)
  | cs, [] => some cs
  | cs, (i, v) :: rest => match ti.k with
    | .agg fs => match fs[i]? with
      | some (off, sz) => if v.cells.length = sz ∧ off + sz ≤ cs.length ∧ v.cells.all cellOk = true then fillv ti (setCells cs off v.cells) rest else none
      | none => none
    | _ => none
def fills (z : Nat) : List VV → List (Nat × VV) → Option (List VV)
  | cs, [] => some cs
  | cs, (i, v) :: rest => if v.cells.length = z ∧ i < cs.length ∧ v.cells.all cellOk = true then fills z (cs.set i v) rest else none
def zeroV (i : TI) : VV := match i.k with
  | .agg _ => .ag (i.zero.map liftc)
  | _ => (i.zero.map liftc).headD .un
def capv (env : Env) : VV → VV
  | .pt t o => match get env t with
    | .bx cs => .vw ((cs.map VV.dv).drop o)
    | _ => .un
  | v => v
def argv {α : Type} (env : Env) : List Operand → (List VV → List Nat → α) → α
  | [], k => k [] []
  | x :: r, k => match rdv env x with
    | .pt t o => (match o with
      | 0 => (match get env t with
        | .bx cs => argv env r fun vs io => k (.bx cs :: vs) (t :: io)
        | _ => argv env r fun vs io => k (.un :: vs) io)
      | _ + 1 => argv env r fun vs io => k (.un :: vs) io)
    | .cl f cap => frcL (cap.map (capv env)) fun cap' => argv env r fun vs io => k (.cl f cap' :: vs) io
    | v => argv env r fun vs io => k (v :: vs) io
def capK {α : Type} : List VV → List VV → (List VV → α) → α
  | [], cap, k => k cap
  | v :: r, cap, k => capK r cap fun l => k (v :: l)
def backs (env : Env) : List Nat → List VV → Env
  | t :: ts, v :: vs => backs (env.set t v) ts vs
  | _, _ => env
def backsK {R : Type} (env : Env) : List Nat → List VV → (Env → Option R) → Option R
  | t :: ts, v :: vs, K => vset t v env fun env' => backsK env' ts vs K
  | _, _, K => K env
def dataC : VV → Bool
  | .s _ => true
  | .sl _ => true
  | _ => false
def argOk : VV → Bool
  | .s _ => true
  | .sl _ => true
  | .ag _ => true
  | .vw _ => true
  | .bx cs => cs.all dataC
  | .cl _ cap => cap.all fun | .vw _ => true | _ => false
  | _ => false
def noCl : VV → Bool
  | .cl _ cap => cap.isEmpty
  | .vw _ => false
  | _ => true
def resOk : VV → Bool
  | .s _ => true
  | .sl _ => true
  | .ag _ => true
  | .tu _ => true
  | .ow _ _ _ => true
  | .nl => true
  | _ => false
def isPtr (C : Cx) (t : TypeId) : Bool := match C.ti t with
  | some i => (match i.k with
    | .ptr => true
    | _ => false)
  | none => true
def nodupB : List Nat → Bool
  | [] => true
  | a :: r => !(r.any (Nat.beq a)) && nodupB r
def isCap : VV → Bool
  | .pt _ _ => true
  | .vw _ => true
  | _ => false
def isBool (C : Cx) (t : TypeId) : Bool := match C.ti t with
  | some i => (match i.k with
    | .bool => true
    | _ => false)
  | none => false
def vcall (f : FuncId) (dst : Option Nat) (vs : List VV) (io : List Nat) (sio : Bool) (env : Env) (K : Env → Option R) : Option R :=
  match vs.all argOk && nodupB io && (io.isEmpty || (sio && vs.all noCl)) with
  | true => obind (C.call f vs) fun r => (match resOk r.1 with
    | true => backsK env io r.2 fun env' => vput dr dst r.1 env' K
    | false => none)
  | false => none
def vop (o : Oper) (env : Env) (K : Env → Option R) : Option R :=
  let val (v : VV) : Option R := vput dr o.dst v env K
  match o.op with
  | .move x => vmove dr (fd ops o.dst) o.dst x env K
  | .assign x => vmove dr true o.dst x env K
  | .pick c a b => match rdv env c with
    | .s (.bool t) => bite t (val (rdv env a)) (val (rdv env b))
    | _ => none
  | .unOp op _ x => match vun op (rdv env x) with
    | some v => val (.s v)
    | none => none
  | .binOp op t x y _ => match vbin (isBool C t) op (rdv env x) (rdv env y) with
    | some (b, v) => must b (val (.s v))
    | none => none
  | .alloc ty => match C.ti ty, o.dst with
    | some i, some d => vnew dr d (.bx (i.zero.map zcell)) env K
    | _, _ => none
  | .box ty x => match C.ti ty, o.dst with
    | some i, some d => if (rdv env x).cells.length = i.sz ∧ (rdv env x).cells.all cellOk = true then vnew dr d (.bx (rdv env x).cells) env K else none
    | _, _ => none
  | .load ty x => match C.ti ty with
    | none => none
    | some i => match rdv env x with
      | .vw cs => match vload i cs 0 with
        | some v => val v
        | none => none
      | .pt t off => match getB dr env t with
        | .bx cs =>
          (match fd ops o.dst with
          | true => (match i.k, cs[off]? with
             | .slice _, some (.ow e z xs) => vset t (.bx (cs.set off (.sl xs))) env fun env' => vput dr o.dst (.ow e z xs) env' K
             | .slice _, some .nl => val .nl
             | _, _ => none)
          | false => (match vload i cs off with
            | some v => val v
            | none => none))
        | _ => none
      | _ => none
  | .store ty x y => match o.dst, C.ti ty with
    | none, some i => match rdv env x with
      | .pt t off => match get env t with
        | .bx cs => if (rdv env y).cells.length = i.sz ∧ off + i.sz ≤ cs.length ∧ (rdv env y).cells.all cellOk = true then
            (match y with
             | .tmp u => (match get env u with
               | .ow e z xs => vset u (.sl xs) env fun env' => vset t (.bx (cs.set off (.ow e z xs))) env' K
               | .nl => vset t (.bx (cs.set off .nl)) env K
               | _ => vset t (.bx (setCells cs off (rdv env y).cells)) env K)
             | _ => vset t (.bx (setCells cs off (rdv env y).cells)) env K) else none
        | _ => none
      | .pe t j sz => match get env t with
        | .mr e sz' xs => if (rdv env y).cells.length = i.sz ∧ i.sz = sz ∧ sz = sz' ∧ (rdv env y).cells.all cellOk = true then bite (decide (0 ≤ j) && decide (j < (xs.length : Int))) (frc (rdv env y) fun v => vset t (.mr e sz' (xs.set j.toNat v)) env K) none else none
        | _ => none
      | _ => none
    | _, _ => none
  | .nilCheck x => match rdv env x with
    | .pt t off => val (.pt t off)
    | _ => none
  | .fieldAddr st x f => match C.ti st with
    | some i => match i.k with
      | .agg fs => match fs[f]? with
        | some (off, sz) => if sz = 0 then none else match rdv env x with
          | .pt t o => val (.pt t (o + off))
          | .vw cs => val (.vw (cs.drop off))
          | _ => none
        | none => none
      | _ => none
    | none => none
  | .indexAddr t x ix => match C.ti t with
    | some i => match i.k with
      | .slice e => match C.ti e with
        | some ie => match rdv env x, rdv env ix with
          | .sl xs, .s (.int _ j) => bite (decide (0 ≤ j) && decide (j < (xs.length : Int))) (vget xs j fun v => if v.cells.length = ie.sz then val (.vw v.cells) else none) none
          | .sr u n, .s (.int _ j) => bite (decide (0 ≤ j) && decide (j < (n : Int))) (val (.pe u j ie.sz)) none
          | _, _ => none
        | none => none
      | _ => none
    | none => none
  | .index t x ix => match C.ti t with
    | some i => match i.k, rdv env x, rdv env ix with
      | .str, .s (.string s), .s (.int _ j) => bite (decide (0 ≤ j) && decide (j < (s.size : Int))) (val (.byte (bt s j))) none
      | _, _, _ => none
    | none => none
  | .extract x n => match rdv env x with
    | .tu vs => match vs[n]? with
      | some v => val v
      | none => none
    | _ => none
  | .build t parts => match C.ti t with
    | some i => match i.k with
      | .agg _ => (match fillv i (i.zero.map liftc) (parts.toList.map fun p => (p.1, rdv env p.2)) with
        | some cs => val (.ag cs)
        | none => none)
      | _ => none
    | none => none
  | .buildSlice t len parts => match C.ti t with
    | some i => match i.k with
      | .slice e => match C.ti e with
        | some ie => if 0 < ie.sz ∧ len * ie.sz ≤ 16777216 then (match fills ie.sz (List.replicate len (zeroV ie)) (parts.toList.map fun p => (p.1, rdv env p.2)) with
          | some xs => frcL xs fun xs' => val (.ow e ie.sz xs')
          | none => none) else none
        | none => none
      | _ => none
    | none => none
  | .makeSlice t l c => match C.ti t with
    | some i => match i.k with
      | .slice e => match C.ti e with
        | some ie => match rdv env l, rdv env c, o.dst with
          | .s (.int .i64 n), .s (.int .i64 n'), some d => if 0 < ie.sz ∧ 0 < ie.bytes then
              bite (decide (n' = n) && (decide (0 ≤ n) && decide (n.toNat * ie.bytes ≤ 281474976710656))) (vnew dr d (.mr e ie.sz (List.replicate n.toNat (zeroV ie))) env K) none else none
          | _, _, _ => none
        | none => none
      | _ => none
    | none => none
  | .makeFunc (.func f) first cap => if first.size = 0 then (match (cap.toList.map (rdv env)).all isCap with
    | true => val (.cl f (cap.toList.map (rdv env)))
    | false => none) else none
  | .convert src dst x => match C.ti src, C.ti dst with
    | some i, some j => match i.k, j.k, rdv env x with
      | .int _, .int k, .s (.int _ n) => val (.s (.int k (wr k n)))
      | .str, .str, .s (.string b) => val (.s (.string b))
      | .slice e, .str, .sl xs => (match C.ti e with
        | some ie => (match ie.k with
          | .int .u8 => obind (byL xs) fun l => val (.str (strOfNums l))
          | _ => none)
        | none => none)
      | _, _, _ => none
    | _, _ => none
  | .slice t x lo hi mx => match mx, C.ti t with
    | none, some i => match i.k, rdv env x with
      | .str, .s (.string s) => (match vbnd (lo.map (rdv env)), vbnd (hi.map (rdv env)) with
        | some l, some h => bite (bndOk s.size (l.getD 0) (h.getD s.size)) (val (.str (s.extract (l.getD 0).toNat (h.getD s.size).toNat))) none
        | _, _ => none)
      | .slice e, .sl xs => (match C.ti e, vbnd (lo.map (rdv env)), vbnd (hi.map (rdv env)) with
        | some ie, some l, some h => bite (bndOk xs.length (l.getD 0) (h.getD xs.length) && xs.all fun v => Nat.beq v.cells.length ie.sz) (val (.sl ((xs.take (h.getD xs.length).toNat).drop (l.getD 0).toNat))) none
        | _, _, _ => none)
      | _, _ => none
    | _, _ => none
  | .call c => match c.callee with
    | .builtin .len => match c.args.toList, c.argTypes.toList with
      | [x], [t] => match C.ti t with
        | some i => match i.k, rdv env x with
          | .str, .s (.string b) => val (.int b.size)
          | .slice _, .sl xs => val (.int xs.length)
          | .slice _, .sr _ n => val (.int n)
          | _, _ => none
        | none => none
      | _, _ => none
    | .builtin .min => match c.args.toList with
      | [x, y] => match rdv env x, rdv env y with
        | .s (.int k n), .s (.int k' n') => val (.s (.int k (if n' < n then n' else n)))
        | _, _ => none
      | _ => none
    | .builtin .append => match c.args.toList, c.argTypes.toList with
      | [.tmp u, y], [t, t'] => if Nat.beq t t' then (match C.ti t with
        | some i => match i.k with
          | .slice e => match C.ti e with
            | some ie => if 0 < ie.sz ∧ 0 < ie.bytes then (match get env u, rdv env y with
              | .ow e' z xs, .sl ys => if Nat.beq e' e && Nat.beq z ie.sz then bite (decide ((xs.length + ys.length) * ie.bytes ≤ 140737488355328) && ys.all fun v => Nat.beq v.cells.length ie.sz) (vset u (.sl xs) env fun env' => vput dr o.dst (.ow e ie.sz (xs ++ ys)) env' K) none else none
              | .nl, .sl ys => bite (decide (ys.length * ie.bytes ≤ 140737488355328) && ys.all fun v => Nat.beq v.cells.length ie.sz) (vset u (.sl []) env fun env' => vput dr o.dst (.ow e ie.sz ys) env' K) none
              | _, _ => none) else none
            | none => none
          | _ => none
        | none => none) else none
      | _, _ => none
    | .value x => match rdv env x with
      | .cl f cap => match drArgs dr (c.args.toList.map (rdv env)) && drArgs dr [.cl f cap] with
        | false => none
        | true => argv env c.args.toList fun vs io => frcL (cap.map (capv env)) fun cap' => capK vs cap' fun vs' => vcall C dr f o.dst vs' io (c.argTypes.toList.any (isPtr C)) env K
      | _ => none
    | _ => none
  | _ => none
def seen (ops : List Oper) (env : Env) (j : Nat) : Option (Option Bool) := match ops[j]? with
  | some o => match o.dst with
    | some t => match get env t with
      | .s (.bool b) => some (some b)
      | .s _ => some none
      | _ => none
    | none => none
  | none => none
def vops : List Oper → Env → (Env → Option R) → Option R
  | [], env, K => K env
  | o :: r, env, K => match o.guard with
    | none => vop C ops dr o env fun env' => vops r env' K
    | some (j, want) => match seen ops env j with
      | some (some b) => bite (b == want) (vop C ops dr o env fun env' => vops r env' K) (vput dr o.dst (.s undef) env fun env' => vops r env' K)
      | some none => vput dr o.dst (.s undef) env fun env' => vops r env' K
      | none => none
end
def clr (l : List Nat) : Nat → Env → Env
  | _, [] => []
  | i, v :: r => (match l.any (Nat.beq i) with
    | true => v
    | false => .un) :: clr l (i + 1) r
def clear : Option (List Nat) → Env → Env
  | none, env => env
  | some l, env => clr l 0 env
def clearK {α : Type} (l : Option (List Nat)) (env : Env) (k : Env → α) : α := frcL (clear l env) k
def iter {R : Type} (body : Env → (Exit → Env → Option R) → Option R) : Nat → Env → (Exit → Env → Option R) → Option R
  | 0, _, _ => none
  | n + 1, env, K => body env fun e env' => match e with
    | .normal => iter body n env' K
    | e => K e env'
def befores : List Oper → List Nat → List Nat
  | [], acc => acc
  | o :: r, acc => befores r (acc ++ [o.after.toList.foldl (fun s e => match Region.binds .any e with
    | true => s ||| (1 <<< e.on) ||| acc.getD e.on 0
    | false => s) 0])
def quietB (C : Cx) (ops : List Oper) (o : Oper) : Bool := match o.op with
  | .move _ => !(fd ops o.dst)
  | .load _ _ => !(fd ops o.dst)
  | .pick _ _ _ => true
  | .unOp _ _ _ => true
  | .binOp _ _ _ _ _ => true
  | .nilCheck _ => true
  | .fieldAddr _ _ _ => true
  | .indexAddr _ _ _ => true
  | .index _ _ _ => true
  | .extract _ _ => true
  | .build _ _ => true
  | .buildSlice _ _ _ => true
  | .makeFunc _ _ _ => true
  | .convert _ _ _ => true
  | .slice _ _ _ _ _ => true
  | .alloc _ => true
  | .call c => (match c.callee with
    | .builtin .len => true
    | .builtin .min => true
    | .value _ => !(c.argTypes.toList.any (isPtr C))
    | _ => false)
  | _ => false
def allocs (ops : List Oper) : List Nat := ops.filterMap fun o => match o.op with
  | .alloc _ => o.dst
  | _ => none
def sdOf (ops : List Oper) (o : Oper) : Option Nat := match o.op with
  | .move (.tmp t) => (match fd ops o.dst with
    | true => some t
    | false => none)
  | .call c => (match c.callee, c.args.toList with
    | .builtin .append, [.tmp u, _] => some u
    | _, _ => none)
  | _ => none
def ownMove (ops : List Oper) (o : Oper) : Bool := match sdOf ops o, o.guard, o.dst with
  | some t, none, some d => !(Nat.beq t d)
  | _, _, _ => false
def wl (ops : List Oper) (o : Oper) : List Nat := match o.dst, sdOf ops o with
  | some d, some t => [d, t]
  | some d, none => [d]
  | none, some t => [t]
  | none, none => []
def wrIn (ops : List Oper) (o : Oper) (l : List Nat) : Bool := (wl ops o).any fun d => l.any (Nat.beq d)
def quietN (bs : List Nat) : Nat → Nat
  | 0 => 0
  | n + 1 => match Nat.beq (bs.getD n 0) (2 ^ n - 1) with
    | true => quietN bs n
    | false => n + 1
def anyOrder (C : Cx) (ops : List Oper) : Bool :=
  let bs := befores ops []
  let n := quietN bs ops.length
  (List.range ops.length).all fun j => match ops[j]? with
    | none => false
    | some y => y.after.toList.all (fun e => !(Region.binds .any e) || Nat.blt e.on j) && (Nat.ble n j || ((quietB C ops y || ownMove ops y) && (List.range j).all fun i => match ops[i]? with
      | none => false
      | some x => (bs.getD j 0).testBit i || (!(wrIn ops x (wl ops y)) && (!(wrIn ops x (y.looksAt ops.toArray)) && !(wrIn ops y (x.looksAt ops.toArray))))))
def run {R : Type} (C : Cx) (kp : Nat → Option (List Nat)) : Code → Nat → Env → (Exit → Env → Option R) → Option R
  | .skip, _, env, K => K .normal env
  | .region _ ops draw, _, env, K => (match draw with
    | true => bite (anyOrder C ops.toList) (match (allocs ops.toList).any (fun d => env.any (refersD d)) with
      | false => vops C ops.toList (some (allocs ops.toList)) ops.toList env (K .normal)
      | true => none) none
    | false => vops C ops.toList none ops.toList env (K .normal))
  | .seq x y, b, env, K => run C kp x b env fun e env' => match e with
    | .normal => run C kp y b env' K
    | e => K e env'
  | .cond c x y, b, env, K => (match rdv env c with
    | .s (.bool t) => bite t (run C kp x b env K) (run C kp y b env K)
    | _ => none)
  | .block id c, _, env, K => run C kp c id env fun e env' => match e with
    | .exit i => (match Nat.beq i id with
      | true => K .normal env'
      | false => K (.exit i) env')
    | e => K e env'
  | .loop c, b, env, K => iter (fun env' K' => clearK (kp b) env' fun e => run C kp c b e K') C.m env K
  | .exit id, _, env, K => K (.exit id) env
  | .ret, _, env, K => K .ret env
  | _, _, _, _ => none
def resv (ti : TypeId → Option TI) (env : Env) : ResultVar → Option VV
  | .tmp t => (match get env t with
    | .ow e z xs => some (.ow e z xs)
    | .nl => some .nl
    | .mr e z xs => some (.ow e z xs)
    | .sr u n => (match get env u with
      | .mr e z xs => must (Nat.beq xs.length n) (some (.ow e z xs))
      | _ => none)
    | .s v => some (.s v)
    | .sl xs => some (.sl xs)
    | .ag cs => some (.ag cs)
    | .tu cs => some (.tu cs)
    | _ => none)
  | .cell a ty => (match get env a, ti ty with
    | .bx cs, some i => vload i cs 0
    | _, _ => none)
def resvs (ti : TypeId → Option TI) (env : Env) : List ResultVar → Option (List VV)
  | [] => some []
  | r :: rs => match resv ti env r, resvs ti env rs with
    | some v, some vs => some (v.dv :: vs)
    | _, _ => none
def outs (env : Env) : Nat → List VV → Option (List VV)
  | _, [] => some []
  | _, .bx _ :: _ => none
  | i, _ :: r => outs env (i + 1) r
def fixnl (ti : TypeId → Option TI) (fn : Func) (v : VV) : VV := match v with
  | .nl => (match fn.resultTypes.toList with
    | [t] => (match ti t with
      | some i => (match i.k with
        | .slice e => (match ti e with
          | some ie => .ow e ie.sz []
          | none => .nl)
        | _ => .nl)
      | none => .nl)
    | _ => .nl)
  | v => v
def fin (ti : TypeId → Option TI) (fn : Func) (args : List VV) (env : Env) : Option (VV × List VV) :=
  match outs env 0 args with
  | some os => (match fn.results.toList with
    | [r] => (match resv ti env r with
      | some v => some (fixnl ti fn v, os)
      | none => none)
    | rs => (match resvs ti env rs with
      | some vs => some (.tu vs, os)
      | none => none))
  | none => none
def start (fn : Func) (args : List VV) : Env := args ++ List.replicate (fn.ntmps - args.length) .un
def body (C : Cx) (kp : Nat → Option (List Nat)) (fn : Func) (c : Code) (args : List VV) : Option (VV × List VV) :=
  run C kp c 0 (start fn args) fun e env => match e with
    | .normal => fin C.ti fn args env
    | .ret => fin C.ti fn args env
    | _ => none
def isBx : VV → Bool
  | .bx _ => true
  | _ => false
def callv (P : Program) (ti : TypeId → Option TI) (keep : FuncId → Nat → Option (List Nat)) (G : FuncId → Option (List VV → Option (VV × List VV))) : Nat → FuncId → List VV → Option (VV × List VV)
  | 0, _, _ => none
  | m + 1, f, args => match G f with
    | some g => g args
    | none => match P.funcs[f]? with
      | some fn => (match fn.name == "runtime.NumGoroutine" || args.any isBx, fn.body with
        | false, some c => body ⟨ti, callv P ti keep G m, m⟩ (keep f) fn c args
        | _, _ => none)
      | none => none
theorem callv_enter {P : Program} {ti : TypeId → Option TI} {keep : FuncId → Nat → Option (List Nat)} {G : FuncId → Option (List VV → Option (VV × List VV))} {m : Nat} {f : FuncId} {args : List VV} {fn : Func} {c : Code} (hG : G f = none) (hf : P.funcs[f]? = some fn) (hname : (fn.name == "runtime.NumGoroutine") = false) (hb : fn.body = some c) (hx : args.any isBx = false) :
    callv P ti keep G (m + 1) f args = body ⟨ti, callv P ti keep G m, m⟩ (keep f) fn c args := by
  rw [callv]; simp only [hG, hf, hname, hb, hx, Bool.or_self]
theorem callv_given {P : Program} {ti : TypeId → Option TI} {keep : FuncId → Nat → Option (List Nat)} {G : FuncId → Option (List VV → Option (VV × List VV))} {m : Nat} {f : FuncId} {args : List VV} {g : List VV → Option (VV × List VV)} (hG : G f = some g) :
    callv P ti keep G (m + 1) f args = g args := by
  rw [callv]; simp only [hG]
mutual
inductive DR (pd : Nat → Nat → Prop) (w : World) : VV → Value → Prop
  | s (v : Value) : DR pd w (.s v) v
  | un (m : Value) : DR pd w .un m
  | sl0 (A : Option Addr) (c : Nat) : DR pd w (.sl []) (.slice A 0 c)
  | sl (xs : List VV) (g off c sz : Nat) (ms : List Value) (hc : xs.length ≤ c) (hm : xs.length ≤ maxLen) (hz : ∀ x ∈ xs, x.cells.length = sz) (hr : DRs pd w (xs.flatMap VV.cells) ms) (h1 : ∀ m ∈ ms, m.oneCell' = true)
      (hw : ∀ (k : Nat) m, ms[k]? = some m → w.cell? ⟨g, off + k, none⟩ = some m ∧ pd g (off + k)) : DR pd w (.sl xs) (.slice (some ⟨g, off, none⟩) xs.length c)
  | ag (cs : List VV) (ms : List Value) (hr : DRs pd w cs ms) (h1 : ∀ m ∈ ms, m.oneCell' = true) : DR pd w (.ag cs) (.agg ms.toArray)
  | tu (cs : List VV) (ms : List Value) (hr : DRs pd w cs ms) : DR pd w (.tu cs) (.tuple ms.toArray)
inductive DRs (pd : Nat → Nat → Prop) (w : World) : List VV → List Value → Prop
  | nil : DRs pd w [] []
  | cons (v : VV) (m : Value) (vs : List VV) (ms : List Value) (h : DR pd w v m) (hs : DRs pd w vs ms) : DRs pd w (v :: vs) (m :: ms)
end
section
variable {pd pd' : Nat → Nat → Prop} {w w' : World}
mutual
theorem DR.keep (hk : ∀ g k m, pd g k → w.cell? ⟨g, k, none⟩ = some m → pd' g k ∧ w'.cell? ⟨g, k, none⟩ = some m) : ∀ {v : VV} {m : Value}, DR pd w v m → DR pd' w' v m
  | _, _, .s v => .s v
  | _, _, .un m => .un m
  | _, _, .sl0 A c => .sl0 A c
  | _, _, .sl xs g off c sz ms hc hm hz hr h1 hw => .sl xs g off c sz ms hc hm hz (DRs.keep hk hr) h1 fun k m h => let ⟨a, b⟩ := hk _ _ _ (hw k m h).2 (hw k m h).1; ⟨b, a⟩
  | _, _, .ag cs ms hr h1 => .ag cs ms (DRs.keep hk hr) h1
  | _, _, .tu cs ms hr => .tu cs ms (DRs.keep hk hr)
theorem DRs.keep (hk : ∀ g k m, pd g k → w.cell? ⟨g, k, none⟩ = some m → pd' g k ∧ w'.cell? ⟨g, k, none⟩ = some m) : ∀ {vs : List VV} {ms : List Value}, DRs pd w vs ms → DRs pd' w' vs ms
  | _, _, .nil => .nil
  | _, _, .cons v m vs ms h hs => .cons v m vs ms (DR.keep hk h) (DRs.keep hk hs)
end
theorem DRs.length {vs : List VV} {ms : List Value} (h : DRs pd w vs ms) : vs.length = ms.length := by
  induction vs generalizing ms with
  | nil => cases h; rfl
  | cons v vs ih => cases h with | cons _ m _ ms h hs => simp [ih hs]
theorem DRs.at {vs : List VV} {ms : List Value} (h : DRs pd w vs ms) : ∀ {i : Nat} {v : VV} {m : Value}, vs[i]? = some v → ms[i]? = some m → DR pd w v m := by
  induction vs generalizing ms with
  | nil => intro i v m hv; simp at hv
  | cons a vs ih =>
    cases h with
    | cons _ b _ ms h hs =>
      intro i v m hv hm
      cases i with
      | zero => simp at hv hm; subst hv; subst hm; exact h
      | succ i => exact ih hs (by simpa using hv) (by simpa using hm)
theorem DRs.of {vs : List VV} {ms : List Value} (hl : vs.length = ms.length) (h : ∀ (i : Nat) v m, vs[i]? = some v → ms[i]? = some m → DR pd w v m) : DRs pd w vs ms := by
  induction vs generalizing ms with
  | nil => cases ms with
    | nil => exact .nil
    | cons m ms => simp at hl
  | cons v vs ih => cases ms with
    | nil => simp at hl
    | cons m ms => exact .cons _ _ _ _ (h 0 v m rfl rfl) (ih (by simpa using hl) fun i a b ha hb => h (i + 1) a b (by simpa using ha) (by simpa using hb))
theorem DRs.get {vs : List VV} {ms : List Value} (h : DRs pd w vs ms) {i : Nat} {v : VV} (hv : vs[i]? = some v) : ∃ m, ms[i]? = some m ∧ DR pd w v m := by
  have hl := h.length
  have hi := (List.getElem?_eq_some_iff.1 hv).1
  exact ⟨ms[i]'(by omega), List.getElem?_eq_getElem (by omega), h.at hv (List.getElem?_eq_getElem (by omega))⟩
theorem DRs.app {vs vs' : List VV} {ms ms' : List Value} (h : DRs pd w vs ms) (h' : DRs pd w vs' ms') : DRs pd w (vs ++ vs') (ms ++ ms') := by
  induction vs generalizing ms with
  | nil => cases h; exact h'
  | cons v vs ih => cases h with | cons _ m _ ms h hs => exact .cons _ _ _ _ h (ih hs)
theorem DRs.take {vs : List VV} {ms : List Value} (h : DRs pd w vs ms) (n : Nat) : DRs pd w (vs.take n) (ms.take n) :=
  .of (by simp [h.length]) fun i v m hv hm => by
    rw [List.getElem?_take] at hv hm
    split at hv
    · rename_i hi; rw [if_pos hi] at hm; exact h.at hv hm
    · cases hv
theorem DRs.drop {vs : List VV} {ms : List Value} (h : DRs pd w vs ms) (n : Nat) : DRs pd w (vs.drop n) (ms.drop n) :=
  .of (by simp [h.length]) fun i v m hv hm => by
    rw [List.getElem?_drop] at hv hm; exact h.at hv hm
theorem DRs.set {vs : List VV} {ms : List Value} (h : DRs pd w vs ms) (n : Nat) {v : VV} {m : Value} (hv : DR pd w v m) : DRs pd w (vs.set n v) (ms.set n m) :=
  .of (by simp [h.length]) fun i a b ha hb => by
    rw [List.getElem?_set] at ha hb
    have := h.length
    by_cases hi : n = i
    · subst hi
      rw [if_pos rfl] at ha hb
      split at ha
      · rename_i hl; rw [if_pos (by omega)] at hb; cases ha; cases hb; exact hv
      · cases ha
    · rw [if_neg hi] at ha hb; exact h.at ha hb
theorem DR.cells {v : VV} {m : Value} (h : DR pd w v m) (hok : v.cells.all cellOk = true) : DRs pd w v.cells m.cells.toList ∧ ∀ u ∈ m.cells.toList, u.oneCell' = true := by
  cases h with
  | s =>
    simp only [VV.cells, List.all_cons, List.all_nil, Bool.and_true] at hok
    cases m <;> first
      | (simp [cellOk] at hok; done)
      | (simp only [Value.cells, VV.cells]; exact ⟨.cons _ _ _ _ (.s _) .nil, by intro u hu; simp at hu; subst hu; rfl⟩)
  | un => simp [VV.cells, cellOk] at hok
  | sl0 A c => simp only [Value.cells, VV.cells]; exact ⟨.cons _ _ _ _ (.sl0 A c) .nil, by intro u hu; simp at hu; subst hu; rfl⟩
  | sl xs g off c sz ms hc hm hz hr h1 hw => simp only [Value.cells, VV.cells]; exact ⟨.cons _ _ _ _ (.sl xs g off c sz ms hc hm hz hr h1 hw) .nil, by intro u hu; simp at hu; subst hu; rfl⟩
  | ag cs ms hr h1 => simp only [Value.cells, VV.cells]; exact ⟨hr, h1⟩
  | tu cs ms hr => simp [VV.cells, cellOk] at hok
theorem DR.dv {v : VV} {m : Value} (h : DR pd w v m) : v.dv = v := by cases h <;> rfl
theorem DRs.dv {vs : List VV} {ms : List Value} (h : DRs pd w vs ms) : vs.map VV.dv = vs := by
  induction vs generalizing ms with
  | nil => rfl
  | cons v vs ih => cases h with | cons _ m _ ms h hs => rw [List.map_cons, h.dv, ih hs]
end
structure Gh where
  pd : Nat → Nat → Prop
  pv : Nat → Nat → Prop
  bl : Nat → Nat
  own : Nat → Option (Nat × Nat)
  B : Nat
def OwnR (G : Gh) (w : World) (p : Nat × Nat) (e : TypeId) (sz : Nat) (xs : List VV) (m : Value) : Prop :=
  ∃ (ms : List Value), w.ownsRow G.B e sz m xs.length ms ∧ DRs G.pd w (xs.flatMap VV.cells) ms ∧ (∀ x ∈ xs, x.cells.length = sz) ∧ (∀ u ∈ ms, u.oneCell' = true) ∧ xs.length ≤ maxLen ∧
    ∀ g, m.ownBlock = some g → G.own g = some p ∧ ∀ k, G.pd g k ↔ k < xs.length * sz
def CellR (G : Gh) (w : World) (p : Nat × Nat) : VV → Value → Prop
  | .ow e z xs, m => OwnR G w p e z xs m
  | .nl, m => m = .slice none 0 0
  | v, m => DR G.pd w v m
def ViewR (G : Gh) (w : World) (cs : List VV) (m : Value) : Prop :=
  ∃ (g off : Nat) (ms : List Value), m = .pointer (some ⟨g, off, none⟩) ∧ DRs G.pd w cs ms ∧ (∀ u ∈ ms, u.oneCell' = true) ∧ ∀ (k : Nat) u, ms[k]? = some u → w.cell? ⟨g, off + k, none⟩ = some u ∧ G.pv g (off + k)
def CapR (G : Gh) (w : World) : VV → Value → Prop
  | .pt u o, m => m = .pointer (some ⟨G.bl u, o, none⟩)
  | .vw cs, m => ViewR G w cs m
  | _, _ => False
def BoxR (G : Gh) (w : World) (t : Nat) (cs : List VV) (m : Value) : Prop :=
  ∃ (ms : List Value) (ty : TypeId), m = .pointer (some ⟨G.bl t, 0, none⟩) ∧ w.heap[G.bl t]? = some (.cells ms.toArray ty (0, 0)) ∧ G.own (G.bl t) = some (t, 0) ∧ (∀ k, ¬ G.pd (G.bl t) k) ∧ cs.length = ms.length ∧ (∀ (i : Nat) v u, cs[i]? = some v → ms[i]? = some u → CellR G w (t, i + 1) v u) ∧ ∀ u ∈ ms, u.oneCell' = true
def MadeR (G : Gh) (w : World) (t : Nat) (e : TypeId) (sz : Nat) (xs : List VV) (m : Value) : Prop :=
  ∃ ms : List Value, m = .slice (some ⟨G.bl t, 0, none⟩) xs.length xs.length ∧ w.heap[G.bl t]? = some (.cells ms.toArray e (0, 0)) ∧ G.own (G.bl t) = some (t, 0) ∧ (∀ k, ¬ G.pd (G.bl t) k) ∧ DRs G.pd w (xs.flatMap VV.cells) ms ∧ (∀ x ∈ xs, x.cells.length = sz) ∧ (∀ u ∈ ms, u.oneCell' = true) ∧ xs.length ≤ maxLen ∧ 0 < sz ∧ G.B ≤ G.bl t
def SlotR (G : Gh) (w : World) (t : Nat) : VV → Value → Prop
  | .ow e z xs, m => OwnR G w (t, 0) e z xs m
  | .nl, m => m = .slice none 0 0
  | .bx cs, m => BoxR G w t cs m
  | .mr e sz xs, m => MadeR G w t e sz xs m
  | .pt u o, m => m = .pointer (some ⟨G.bl u, o, none⟩)
  | .sr u n, m => m = .slice (some ⟨G.bl u, 0, none⟩) n n
  | .pe u i sz, m => m = .pointer (some ⟨G.bl u, i.toNat * sz, none⟩)
  | .vw cs, m => ViewR G w cs m
  | .cl f cap, m => ∃ ms : List Value, m = .func (.func f) #[] ms.toArray ∧ cap.length = ms.length ∧ ∀ (i : Nat) v u, cap[i]? = some v → ms[i]? = some u → CapR G w v u
  | v, m => DR G.pd w v m
theorem SlotR.un {G : Gh} {w : World} {t : Nat} {m : Value} : SlotR G w t .un m := DR.un m
structure Evo (G : Gh) (w : World) (G' : Gh) (w' : World) (T L : Nat → Prop) : Prop where
  d : ∀ g k m, G.pd g k → w.cell? ⟨g, k, none⟩ = some m → G'.pd g k ∧ w'.cell? ⟨g, k, none⟩ = some m
  v : ∀ g k m, G.pv g k → w.cell? ⟨g, k, none⟩ = some m → G'.pv g k ∧ w'.cell? ⟨g, k, none⟩ = some m
  b : ∀ g t j o, G.own g = some (t, j) → w.heap[g]? = some o → ¬ T t → w'.heap[g]? = some o ∧ G'.own g = some (t, j) ∧ ∀ k, G'.pd g k ↔ G.pd g k
  l : ∀ t, ¬ L t → G'.bl t = G.bl t
  bb : G'.B = G.B
section
variable {G G' : Gh} {w w' : World} {T L : Nat → Prop}
theorem own_heap {B : Nat} {e : TypeId} {sz n g : Nat} {m : Value} {ms : List Value} (h : w.ownsRow B e sz m n ms) (hg : m.ownBlock = some g) : ∃ o, w.heap[g]? = some o := by
  rcases h.2 with ⟨rfl, _⟩ | ⟨g', cap, cur, rfl, _, hh, _⟩
  · simp [Value.ownBlock] at hg
  · simp [Value.ownBlock] at hg; subst hg; exact ⟨_, hh⟩
theorem own_moves {B : Nat} {e : TypeId} {sz n : Nat} {m : Value} {ms : List Value} (h : w.ownsRow B e sz m n ms) (hb : ∀ g o, m.ownBlock = some g → w.heap[g]? = some o → w'.heap[g]? = some o) : w'.ownsRow B e sz m n ms := by
  refine ⟨h.1, ?_⟩
  rcases h.2 with hn | ⟨g, cap, cur, rfl, h0, hh, rest⟩
  · exact .inl hn
  · exact .inr ⟨g, cap, cur, rfl, h0, hb g _ rfl hh, rest⟩
theorem OwnR.keep {p : Nat × Nat} {e : TypeId} {sz : Nat} {xs : List VV} {m : Value} (E : Evo G w G' w' T L) (hp : ¬ T p.1) (h : OwnR G w p e sz xs m) : OwnR G' w' p e sz xs m := by
  obtain ⟨ms, ho, hr, hz, h1, hl, hg⟩ := h
  refine ⟨ms, E.bb ▸ own_moves ho (fun g o hgb hh => (E.b g p.1 p.2 o (hg g hgb).1 hh hp).1), hr.keep E.d, hz, h1, hl, fun g hgb => ?_⟩
  obtain ⟨o, hh⟩ := own_heap ho hgb
  obtain ⟨_, h2, h3⟩ := E.b g p.1 p.2 o (hg g hgb).1 hh hp
  exact ⟨h2, fun k => (h3 k).trans ((hg g hgb).2 k)⟩
theorem CellR.keep {p : Nat × Nat} {v : VV} {m : Value} (E : Evo G w G' w' T L) (hp : ¬ T p.1) (h : CellR G w p v m) : CellR G' w' p v m := by
  cases v <;> first | exact OwnR.keep E hp h | exact DR.keep E.d h | exact h
theorem ViewR.keep {cs : List VV} {m : Value} (E : Evo G w G' w' T L) (h : ViewR G w cs m) : ViewR G' w' cs m := by
  obtain ⟨g, off, ms, rfl, hr, h1, hc⟩ := h
  exact ⟨g, off, ms, rfl, hr.keep E.d, h1, fun k u hu => let ⟨a, b⟩ := E.v _ _ _ (hc k u hu).2 (hc k u hu).1; ⟨b, a⟩⟩
theorem CapR.keep {v : VV} {m : Value} (E : Evo G w G' w' T L) (hr : ∀ u, L u → refers u v = false) (h : CapR G w v m) : CapR G' w' v m := by
  cases v <;> first
    | exact ViewR.keep E h
    | (rename_i u o; have hn : ¬ L u := fun hT => by have := hr u hT; simp [refers] at this
       show _ = _; rw [E.l u hn]; exact h)
    | exact h.elim
theorem BoxR.keep {t : Nat} {cs : List VV} {m : Value} (E : Evo G w G' w' T L) (hp : ¬ T t) (hq : ¬ L t) (h : BoxR G w t cs m) : BoxR G' w' t cs m := by
  obtain ⟨ms, ty, rfl, hh, ho, hn, hl, hc, h1⟩ := h
  obtain ⟨a, b, c⟩ := E.b _ t 0 _ ho hh hp
  refine ⟨ms, ty, by rw [E.l t hq], by rw [E.l t hq]; exact a, by rw [E.l t hq]; exact b, fun k hk => hn k ((c k).1 (by rw [E.l t hq] at hk; exact hk)), hl, fun i v u hv hu => CellR.keep E hp (hc i v u hv hu), h1⟩
theorem MadeR.keep {t : Nat} {e : TypeId} {sz : Nat} {xs : List VV} {m : Value} (E : Evo G w G' w' T L) (hp : ¬ T t) (hq : ¬ L t) (h : MadeR G w t e sz xs m) : MadeR G' w' t e sz xs m := by
  obtain ⟨ms, rfl, hh, ho, hn, hr, hz, h1, hl, h0, hB⟩ := h
  obtain ⟨a, b, c⟩ := E.b _ t 0 _ ho hh hp
  exact ⟨ms, by rw [E.l t hq], by rw [E.l t hq]; exact a, by rw [E.l t hq]; exact b, fun k hk => hn k ((c k).1 (by rw [E.l t hq] at hk; exact hk)), hr.keep E.d, hz, h1, hl, h0, by rw [E.bb, E.l t hq]; exact hB⟩
theorem SlotR.keep {t : Nat} {v : VV} {m : Value} (E : Evo G w G' w' T L) (hp : ¬ T t) (hq : ¬ L t) (hr : ∀ u, L u → refersD u v = false) (h : SlotR G w t v m) : SlotR G' w' t v m := by
  cases v <;> first
    | exact DR.keep E.d h
    | exact OwnR.keep E hp h
    | exact BoxR.keep E hp hq h
    | exact MadeR.keep E hp hq h
    | exact ViewR.keep E h
    | (obtain ⟨ms, rfl, hl, hc⟩ := h
       refine ⟨ms, rfl, hl, fun i v u hv hu => CapR.keep E (fun x hx => ?_) (hc i v u hv hu)⟩
       have h2 := hr x hx
       simp only [refersD, List.any_eq_false] at h2
       simpa using h2 v (List.mem_of_getElem? hv))
    | (rename_i u _; have hn : ¬ L u := fun hT => by have := hr u hT; simp [refersD, refers] at this
       show _ = _; rw [E.l u hn]; exact h)
    | (rename_i u _ _; have hn : ¬ L u := fun hT => by have := hr u hT; simp [refersD, refers] at this
       show _ = _; rw [E.l u hn]; exact h)
    | exact h
end
theorem hao_ (w : World) (o : Obj) (i : Nat) (h : i < w.heap.size) : (w.alloc o).heap[i]? = w.heap[i]? := by
  show (w.heap.push o)[i]? = _
  rw [Array.getElem?_push_lt h, Array.getElem?_eq_getElem h]
structure Fr (io : List Nat) (B : Nat) (w w' : World) : Prop where
  os : w'.os = w.os
  tape : w'.tape = w.tape
  output : w'.output = w.output
  size : w.heap.size ≤ w'.heap.size
  block : ∀ k, k < B → k ∉ io → w'.heap[k]? = w.heap[k]?
theorem Fr.refl (io : List Nat) (B : Nat) (w : World) : Fr io B w w := ⟨rfl, rfl, rfl, Nat.le_refl _, fun _ _ _ => rfl⟩
theorem Fr.trans {io : List Nat} {B : Nat} {a b c : World} (h : Fr io B a b) (k : Fr io B b c) : Fr io B a c :=
  ⟨k.os.trans h.os, k.tape.trans h.tape, k.output.trans h.output, Nat.le_trans h.size k.size, fun i h1 h2 => (k.block i h1 h2).trans (h.block i h1 h2)⟩
theorem Fr.alloc {io : List Nat} {B : Nat} {a b : World} (h : Fr io B a b) (hB : B ≤ a.heap.size) (o : Obj) : Fr io B a (b.alloc o) :=
  ⟨h.os, h.tape, h.output, Nat.le_trans h.size (by simp), fun i h1 h2 => (hao_ b o i (by have := h.size; omega)).trans (h.block i h1 h2)⟩
structure TIok (P : Program) (ti : TypeId → Option TI) : Prop where
  info : ∀ t i, ti t = some i → ∃ inf z, P.info? t = some inf ∧ inf.zero = some z ∧ z.cells.toList = i.zero ∧ inf.size = i.sz ∧ inf.bytes = i.bytes ∧ i.zero.length = i.sz ∧ (∀ v ∈ i.zero, v.oneCell' = true) ∧ (match i.k with
    | .agg _ => ∃ c, z = .agg c
    | _ => i.sz = 1)
  kind : ∀ t i, ti t = some i → match i.k with
    | .agg fs => ∃ fields, P.underlying t = some (.struct fields) ∧ fields.size = fs.length ∧ ∀ (j : Nat) o z, fs[j]? = some (o, z) → ∃ f inf, fields[j]? = some f ∧ f.offset = o ∧ P.info? f.type = some inf ∧ inf.size = z
    | .slice e => P.underlying t = some (.slice e)
    | .str => P.underlying t = some .string
    | .bool => P.underlying t = some .bool
    | .int k => P.underlying t = some (.int k)
    | .ptr => ∃ e, P.underlying t = some (.pointer e)
structure Sim (NG : Nat) (GW : World → Prop) (io : List Nat) (w0 : World) (pd0 : Nat → Nat → Prop) (G : Gh) (env : Env) (a : Act) (w : World) : Prop where
  size : env.length = a.tmps.size
  slot : ∀ (t : Nat) v m, env[t]? = some v → a.tmps[t]? = some m → SlotR G w t v m
  df : a.defers = []
  fr : Fr io w0.heap.size w0 w
  gw : GW w
  ng : NG ≤ w0.heap.size
  ngio : ∀ g ∈ io, NG ≤ g
  own : ∀ g p, G.own g = some p → g < w.heap.size ∧ (w0.heap.size ≤ g ∨ g ∈ io)
  ownp : ∀ g k, G.own g ≠ none → G.pv g k → G.pd g k
  dv : ∀ g k, G.pd g k → G.pv g k
  B : G.B = w0.heap.size
  old : ∀ g k, g < w0.heap.size → G.pd g k → pd0 g k
def VR (G : Gh) (w : World) : VV → Value → Prop
  | .ow _ _ _, _ => False
  | .nl, _ => False
  | .bx _, _ => False
  | .mr _ _ _, _ => False
  | v, m => SlotR G w 0 v m
theorem VR.slot {G : Gh} {w : World} {v : VV} {m : Value} (h : VR G w v m) (t : Nat) : SlotR G w t v m := by cases v <;> first | exact h | exact h.elim
theorem VR.of_dr {G : Gh} {w : World} {v : VV} {m : Value} (h : DR G.pd w v m) : VR G w v m := by cases h <;> (show DR G.pd w _ _) <;> constructor <;> assumption
theorem nth_some {env : Env} {t : Nat} {v : VV} (h : env[t]? = some v) : nth env t = v := by
  induction env generalizing t with
  | nil => simp at h
  | cons a r ih => cases t with
    | zero => simpa [nth] using h
    | succ t => exact ih (by simpa using h)
theorem nth_none {env : Env} {t : Nat} (h : env[t]? = none) : nth env t = .un := by
  induction env generalizing t with
  | nil => cases t <;> rfl
  | cons a r ih => cases t with
    | zero => simp at h
    | succ t => exact ih (by simpa using h)
theorem frc1_eq {α : Type} (v : VV) (k : VV → α) : frc1 v k = k v := by cases v <;> rfl
theorem frcL_eq {α : Type} : ∀ (l : List VV) (k : List VV → α), frcL l k = k l
  | [], _ => rfl
  | v :: r, k => by rw [frcL, frc1_eq, frcL_eq r]
theorem frc_eq {α : Type} (v : VV) (k : VV → α) : frc v k = k v := by cases v <;> first | rfl | (rw [frc, frcL_eq])
theorem setK_eq {α : Type} : ∀ (n : Nat) (v : VV) (env : Env) (k : Env → α), setK n v env k = k (env.set n v)
  | _, _, [], _ => by simp [setK]
  | 0, _, _ :: _, _ => rfl
  | n + 1, v, a :: r, k => by rw [setK, setK_eq n v r]; rfl
section
variable {R : Type} {K : Env → Option R}
theorem vset_eq (t : Nat) (v : VV) (env : Env) : vset t v env K = K (env.set t v) := by rw [vset, frc_eq, setK_eq]
theorem vput_some {dr : Option (List Nat)} {dst : Option Nat} {v : VV} {env : Env} {r : R} (h : vput dr dst v env K = some r) : K (put dst v env) = some r := by
  cases dst with
  | none => exact h
  | some d =>
    cases dr with
    | none => simpa [vput, vset_eq, put] using h
    | some l =>
      simp only [vput] at h
      split at h
      · simpa [vset_eq, put] using h
      · cases h
theorem clearK_eq {α : Type} (l : Option (List Nat)) (env : Env) (k : Env → α) : clearK l env k = k (clear l env) := frcL_eq _ _
end
section
variable {P : Program} {NG : Nat} {GW : World → Prop} {io : List Nat} {w0 : World} {pd0 : Nat → Nat → Prop} {G G' : Gh} {env : Env} {a : Act} {w w' : World}
theorem OwnR.dr {p : Nat × Nat} {e : TypeId} {sz : Nat} {xs : List VV} {m : Value} (h : OwnR G w p e sz xs m) : DR G.pd w (.sl xs) m := by
  obtain ⟨ms, ho, hr, hz, h1, hl, hg⟩ := h
  rcases ho.2 with ⟨rfl, hn⟩ | ⟨g, cap, cur, rfl, h0, hh, hnc, hcm, hcs, htk⟩
  · obtain rfl : xs = [] := List.eq_nil_of_length_eq_zero hn
    exact .sl0 _ _
  · refine .sl xs g 0 cap sz ms hnc hl hz hr h1 fun k u hu => ?_
    have hk : k < xs.length * sz := by rw [← ho.1]; exact (List.getElem?_eq_some_iff.1 hu).1
    refine ⟨?_, by rw [Nat.zero_add]; exact ((hg g rfl).2 k).2 hk⟩
    have h2 := ho.cells (g := g) rfl k u hu
    have hadd : (⟨g, 0, none⟩ : Addr).add k = ⟨g, 0 + k, none⟩ := by unfold Addr.add; split <;> simp_all
    rw [hadd] at h2; exact h2
theorem view_rel {t : Nat} {v : VV} {m : Value} (h : SlotR G w t v m) : VR G w (view t v) m := by
  cases v <;> first
    | exact h
    | exact VR.of_dr (OwnR.dr h)
    | (obtain ⟨ms, ty, rfl, _⟩ := h; exact rfl)
    | (obtain ⟨ms, rfl, _⟩ := h; exact rfl)
    | (cases h; exact VR.of_dr (.sl0 _ _))
theorem get_rel (hs : Sim NG GW io w0 pd0 G env a w) (t : Nat) : ∃ v, get env t = v ∧ SlotR G w t v (a.eval (.tmp t)) := by
  refine ⟨_, rfl, ?_⟩
  cases h : env[t]? with
  | none => rw [get, nth_none h]; exact SlotR.un
  | some v =>
    rw [get, nth_some h]
    have ht : t < a.tmps.size := by rw [← hs.size]; exact (List.getElem?_eq_some_iff.1 h).1
    have := hs.slot t v (a.tmps[t]) h (Array.getElem?_eq_getElem ht)
    simpa [Act.eval, ht] using this
theorem get_slot (hs : Sim NG GW io w0 pd0 G env a w) (t : Nat) : SlotR G w t (get env t) (a.eval (.tmp t)) := let ⟨v, h, k⟩ := get_rel hs t; h ▸ k
theorem liftc_rel (v : Value) : DR G.pd w (liftc v) v := by
  unfold liftc; split
  · exact .sl0 _ _
  · exact .s _
theorem liftcs_rel : ∀ ms : List Value, DRs G.pd w (ms.map liftc) ms
  | [] => .nil
  | m :: ms => .cons _ _ _ _ (liftc_rel m) (liftcs_rel ms)
theorem lift_rel (v : Value) : VR G w (lift v) v := by
  unfold lift
  split
  · exact VR.of_dr (.sl0 _ _)
  · rename_i cs
    split
    · rename_i h
      have := DR.ag (pd := G.pd) (w := w) _ _ (liftcs_rel cs.toList) (by rw [List.all_eq_true] at h; exact h)
      exact VR.of_dr (by simpa using this)
    · exact VR.of_dr (.un _)
  · exact VR.of_dr (.s _)
theorem rdv_rel (hs : Sim NG GW io w0 pd0 G env a w) (x : Operand) : VR G w (rdv env x) (a.eval x) := by
  cases x with
  | tmp t => exact view_rel (get_slot hs t)
  | const v => exact lift_rel v
  | global g => exact VR.of_dr (.un _)
  | func f => exact ⟨[], rfl, rfl, fun i v u h => by simp at h⟩
theorem Sim.put (hs : Sim NG GW io w0 pd0 G env a w) (dst : Option Nat) {v : VV} {m : Value} (h : ∀ d, dst = some d → SlotR G w d v m) : Sim NG GW io w0 pd0 G (put dst v env) (a.put dst m) w := by
  cases dst with
  | none => exact hs
  | some d =>
    refine { hs with size := by simpa [VI.put, Act.put] using hs.size, slot := ?_ }
    intro t u n hu hn
    simp only [VI.put, Act.put] at hu hn
    rw [List.getElem?_set] at hu
    rw [Array.getElem?_setIfInBounds] at hn
    by_cases hd : d = t
    · subst hd
      rw [if_pos rfl] at hu hn
      split at hu
      · rename_i hl; rw [if_pos (by rw [← hs.size]; exact hl)] at hn
        cases hu; cases hn; exact h d rfl
      · cases hu
    · rw [if_neg hd] at hu hn
      exact hs.slot t u n hu hn
theorem Sim.evo {T L : Nat → Prop} {env' : Env} (hs : Sim NG GW io w0 pd0 G env a w) (E : Evo G w G' w' T L) (hl : env'.length = env.length)
    (hk : ∀ (t : Nat) v' m, env'[t]? = some v' → a.tmps[t]? = some m → (∃ v, env[t]? = some v ∧ v' = v ∧ ¬ T t ∧ ¬ L t ∧ ∀ u, L u → refersD u v = false) ∨ SlotR G' w' t v' m)
    (hf : Fr io w0.heap.size w0 w') (hg : GW w') (ho : ∀ g p, G'.own g = some p → g < w'.heap.size ∧ (w0.heap.size ≤ g ∨ g ∈ io)) (hp : ∀ g k, G'.own g ≠ none → G'.pv g k → G'.pd g k) (hdv : ∀ g k, G'.pd g k → G'.pv g k) (hold : ∀ g k, g < w0.heap.size → G'.pd g k → pd0 g k) : Sim NG GW io w0 pd0 G' env' a w' where
  size := hl.trans hs.size
  slot t v m hv hm := by
    rcases hk t v m hv hm with ⟨u, hu, rfl, h1, h2, h3⟩ | h
    · exact SlotR.keep E h1 h2 h3 (hs.slot t _ m hu hm)
    · exact h
  df := hs.df
  fr := hf
  gw := hg
  ng := hs.ng
  ngio := hs.ngio
  own := ho
  ownp := hp
  dv := hdv
  B := E.bb.trans hs.B
  old := hold
theorem kill_none {t : Nat} {v : VV} (h : refersD t v = false) : kill t v = v := by
  cases v <;> simp_all [refersD, refers, kill]
theorem nbeq_false {a b : Nat} (h : ¬ a = b) : Nat.beq a b = false := by
  cases hb : Nat.beq a b
  · rfl
  · exact absurd (Nat.eq_of_beq_eq_true hb) h
theorem kill_refers (t : Nat) (v : VV) : refersD t (kill t v) = false := by
  cases v <;> simp only [kill] <;> (try split) <;> simp_all [refersD, refers, nbeq_false]
theorem kill_slot {t d : Nat} {v : VV} {m : Value} (h : SlotR G w t v m) : SlotR G w t (kill d v) m := by
  by_cases hr : refersD d v = false
  · rw [kill_none hr]; exact h
  · have : kill d v = .un := by
      cases v <;> simp_all [refersD, refers, kill]
    rw [this]; exact SlotR.un
theorem Sim.fresh (hs : Sim NG GW io w0 pd0 G env a w) (gws : ∀ w w', GW w → Below NG w w' → GW w') (d : Nat) (b : VV) (ms : List Value) (ty : TypeId) (m : Value)
    (hb : ∀ G' : Gh, G'.B ≤ w.heap.size → G'.bl d = w.heap.size → G'.own w.heap.size = some (d, 0) → (∀ k, ¬ G'.pd w.heap.size k) → (∀ v m, DR G.pd w v m → DR G'.pd (w.alloc (.cells ms.toArray ty)) v m) → SlotR G' (w.alloc (.cells ms.toArray ty)) d b m) :
    ∃ G', Sim NG GW io w0 pd0 G' ((env.map (kill d)).set d b) (a.put (some d) m) (w.alloc (.cells ms.toArray ty)) := by
  let g := w.heap.size
  let G' : Gh := ⟨fun x k => x ≠ g ∧ G.pd x k, fun x k => x ≠ g ∧ G.pv x k, fun t => if t = d then g else G.bl t, fun x => if x = g then some (d, 0) else G.own x, G.B⟩
  have hlt : ∀ x k m, w.cell? ⟨x, k, none⟩ = some m → x ≠ g := fun x k m h e => by have := World.block_lt_of_cell? w _ h; simp only [g] at e; simp at this; omega
  have hkeep : ∀ x k m, w.cell? ⟨x, k, none⟩ = some m → (w.alloc (.cells ms.toArray ty)).cell? ⟨x, k, none⟩ = some m := fun x k m h => by
    rw [World.cell?_of_block (hao_ w _ x (by have := World.block_lt_of_cell? w _ h; simpa using this))]; exact h
  have E : Evo G w G' (w.alloc (.cells ms.toArray ty)) (fun _ => False) (fun t => t = d) := by
    refine ⟨fun x k m h1 h2 => ⟨⟨hlt x k m h2, h1⟩, hkeep x k m h2⟩, fun x k m h1 h2 => ⟨⟨hlt x k m h2, h1⟩, hkeep x k m h2⟩, ?_, fun t ht => if_neg ht, rfl⟩
    intro x t j o h1 h2 _
    have hx : x < w.heap.size := (Array.getElem?_eq_some_iff.1 h2).1
    have hne : x ≠ g := by simp only [g]; omega
    exact ⟨(hao_ w _ x hx).trans h2, by simp only [G', if_neg hne]; exact h1, fun k => ⟨fun h => h.2, fun h => ⟨hne, h⟩⟩⟩
  refine ⟨G', ?_⟩
  have hsim : Sim NG GW io w0 pd0 G' ((env.map (kill d)).set d .un) a (w.alloc (.cells ms.toArray ty)) := by
    refine hs.evo E (by simp) ?_ (hs.fr.alloc (Nat.le_refl _) _) (gws _ _ hs.gw ((Below.refl _ w).alloc (by have := hs.ng; have := hs.fr.size; omega) _)) ?_ ?_ ?_ (fun x k h1 h2 => hs.old x k h1 h2.2)
    · intro t v m hv hm
      by_cases htd : t = d
      · subst htd
        rw [List.getElem?_set, if_pos rfl] at hv
        split at hv
        · cases hv; exact .inr SlotR.un
        · cases hv
      · rw [List.getElem?_set, if_neg (fun e => htd e.symm), List.getElem?_map] at hv
        obtain ⟨u, hu, rfl⟩ := Option.map_eq_some_iff.1 hv
        refine .inr (SlotR.keep E id htd (fun x hx => ?_) (kill_slot (hs.slot t u m hu hm)))
        subst hx; exact kill_refers _ _
    · intro x p hx
      simp only [G'] at hx
      split at hx
      · rename_i e; subst e; exact ⟨by simp [g], .inl (by simp only [g]; exact hs.fr.size)⟩
      · have := hs.own x p hx; exact ⟨by simp; omega, this.2⟩
    · intro x k hx hk
      simp only [G'] at hx hk ⊢
      rw [if_neg hk.1] at hx
      exact ⟨hk.1, hs.ownp x k hx hk.2⟩
    · exact fun x k hk => ⟨hk.1, hs.dv x k hk.2⟩
  have := hsim.put (some d) (v := b) (m := m) fun d' hd => by
    cases hd
    exact hb G' (by show G.B ≤ _; rw [hs.B]; exact hs.fr.size) (if_pos rfl) (if_pos rfl) (fun k hk => hk.1 rfl) fun v m h => h.keep E.d
  simpa [VI.put] using this
end
end Go.Proofs.YtcfeihimmboghaaGreatDoor.VI

end
