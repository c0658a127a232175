/- A part of the proof that the law FnExactOrder answers true at every input that its row speaks of. Conditions: the row's own. -/
import Derived.Test.YtieohddolkeegaaGreatDoorMFnExactOrder1
import Derived.Test.YtieohddolkeegaaGreatDoorMFnExactOrder0
import Derived.Calls
import Derived.LoopN
import Derived.Orders
import Derived.RowKit
import Derived.Laws.AppendOwn
import Derived.Laws.MakeOwn
import Derived.Deep.Draws
import Derived.Below
import Derived.Laws.BytesArg
import Derived.Maps.AppendAt
import Derived.Laws.Entries
import Derived.Laws.OwnMore
import Derived.Laws.Slices
import Derived.Laws.Tables
import Derived.ChangeKeysEq
import Derived.Test.YtieohddolkeegaaGreatDoorOrd
import Derived.Laws.Small
import Derived.Great.BuildSlice
section
namespace Go.Proofs.YtieohddolkeegaaGreatDoor.G
open Go.RowKit Go.Proofs.YtieohddolkeegaaGreatDoorW.PrintWords Go.Proofs.YtieohddolkeegaaGreatDoorW.PrintLast Go.Proofs.YtieohddolkeegaaGreatDoorW.PrintMore Go.Proofs.YtieohddolkeegaaGreatDoor.U
attribute [local go_sem] max2_int min2_int max_two min_two max_three min_three max_four min_four
set_option linter.unusedVariables false
set_option linter.unusedSimpArgs false
theorem R_mine {w w1 : World} {base : Nat} {ok : Nat → Prop} {v : Value} {xs : List ByteArray} {S : Nat → Prop} (h : Kd.string.R 9 w base ok v xs) (hk : Kept w w1 S) (hne : ∀ k, v.ownBlock = some k → ¬ S k) : Kd.string.R 9 w1 base ok v xs :=
  Kd.R_reok rfl (Kd.R_kept (Kd.R_tight rfl h) hk (fun k hk => hne k hk.symm)) h.1
set_option maxHeartbeats 8000000 in
set_option maxRecDepth 100000 in
theorem laws_markGraph.callsM (P0 P1 : Nat → Prop) (A0 : Option Addr) (c0 : Nat) (l0 : List ByteArray) (A1 : Option Addr) (c1 : Nat) (l1 : List S47) (a1 r : Int) (w0 w : World) (hB : Below w0.heap.size w0 w) (hR : Kd.string.R 9 w w0.heap.size P0 (.slice A0 l0.length c0) l0) (hS : Kd.S k47 47 w w0.heap.size P1 (.slice A1 l1.length c1) l1) (hne : ∀ k, P1 k → some k ≠ (Value.slice A0 l0.length c0).ownBlock) (hnew : ∀ k, w.heap.size ≤ k → P1 k) (h : laws_markGraph.f l0 l1 a1 = some r) :
    Calls Tryz.prog 37 #[.agg #[.slice A0 l0.length c0, .slice A1 l1.length c1], .int .i64 a1] w fun e w' => ∃ (m0 : List ByteArray) (m1 : List S47), e = .returned (.int .i64 r) ∧ Kd.string.R 9 w' w0.heap.size P0 (.slice A0 l0.length c0) m0 ∧ Kd.S k47 47 w' w0.heap.size P1 (.slice A1 l1.length c1) m1 ∧ Below w0.heap.size w0 w' ∧ Kept w w' (fun k => some k = (Value.slice A0 l0.length c0).ownBlock ∨ P1 k) := by
  have hu := Tryz.underlying39
  unfold laws_markGraph.f at h
  split at h
  case isFalse => cases h
  rename_i hc
  obtain ⟨ha, hl⟩ := hc
  have hr := (Option.some.inj h).symm
  clear h
  have hcn : laws_markGraph.cnt l0 l1 = l0.length + cntP l1 := rfl
  rw [hcn] at hr hl
  clear hcn
  obtain ⟨s0, hs0, n0, q0⟩ := markStringS_cnt l0 a1 (by omega) ha (by omega)
  obtain ⟨r1, hr1⟩ : ∃ x : Int, x = a1 + l0.length := ⟨_, rfl⟩
  rw [← hr1] at q0
  have Q0 := Aside0.mk q0
  have HF := Aside0.mk (And.intro ha (And.intro hl (And.intro hr (And.intro hr1 (And.intro hne hnew)))))
  have hRl := Kd.R_lt hR
  have hSl := Kd.S_lt hS
  have HRL := Aside0.mk hRl
  have HR := Aside0.mk hR
  have HS := Aside0.mk hS
  have HB := Aside0.mk hB
  have HW := Aside0.mk hB.size
  clear ha hl hr hr1 hne hnew q0 hs0 hR hS hB hRl hSl
  go_enter Tryz.func37, Tryz.ntmps37
  go_wp2_with (first | ((with_reducible refine gate_dst (N := 2) rfl ?_); refine box_event ?hg (N := 2) ?hd (cs := #[.slice A0 l0.length c0, .slice A1 l1.length c1]) (t := 39) ?hr ?_; (case hd => rfl); (case hg => rfl); (case hr => first | (go_simp; done) | (go_simp; rfl)); intro gb hg wa hbox hb; have HG := Aside0.mk hg; have BK := Aside0.mk hbox; have HBB := Aside0.mk hb; replace HR := Aside0.mk (Kd.R_below HR.out hb); replace HS := Aside0.mk (Kd.S_below HS.out hb); replace HB := Aside0.mk (below_step HB.out hb); clear hg hbox hb; have hc0 : wa.cell? ⟨gb, 0, none⟩ = some (.slice A0 l0.length c0) := (blk_cell BK.out 0).trans rfl; have hc1 : wa.cell? ⟨gb, 1, none⟩ = some (.slice A1 l1.length c1) := (blk_cell BK.out 1).trans rfl) | ((with_reducible refine gate_callee (f := 38) rfl ?_); refine goesL_ (some 8) rfl rfl Tryz.func38 (by kernel_rfl) rfl #[.slice A0 l0.length c0, .int .i64 a1] rfl (by (try simp only [List.map_toArray, List.map_cons, List.map_nil]); first | done | rfl) ?_; (with_reducible refine (laws_markStringS.calls _ (fun k => some k = (Value.slice A0 l0.length c0).ownBlock) (.slice A0 l0.length c0) l0 a1 r1 s0 w0 _ HB.out ?side1 (Q0.out _ (Nat.le_refl _))).mono ?_); (case side1 => exact Kd.R_tight rfl HR.out); rintro e wb ⟨rfl, hR2, hB2, hK2⟩; refine ⟨_, rfl, ?_⟩; have HK := Aside0.mk hK2; replace BK := Aside0.mk (blk_kept BK.out hK2 (fun hq => by have := HRL.out gb hq.symm; have := HG.out; omega)); replace HS := Aside0.mk (Kd.S_kept HS.out hK2 (fun k hk hq => HF.out.2.2.2.2.1 k hk hq)); replace HR := Aside0.mk (Kd.R_reok rfl hR2 HR.out.1); replace HB := Aside0.mk hB2; clear hR2 hB2 hK2; clear hc0 hc1; have hc1 : wb.cell? ⟨gb, 1, none⟩ = some (.slice A1 l1.length c1) := (blk_cell BK.out 1).trans rfl) | ((with_reducible refine gate_callee (f := 82) rfl ?_); refine goesL_ (some 12) rfl rfl Tryz.func82 (by kernel_rfl) rfl #[.slice A1 l1.length c1, .int .i64 r1] rfl (by (try simp only [List.map_toArray, List.map_cons, List.map_nil]); first | done | rfl) ?_; (with_reducible refine (laws_markPackS.callsM P1 (.slice A1 l1.length c1) l1 r1 w0 _ HB.out HS.out ?side1 ?side2).mono ?_); (case side1 => obtain ⟨h1, h2, h3, h4, _⟩ := HF.out; omega); (case side2 => obtain ⟨h1, h2, h3, h4, _⟩ := HF.out; omega); rintro e wc ⟨m1, rfl, hm1, hS2, hB2, hK2⟩; refine ⟨_, rfl, ?_⟩; have HK2 := Aside0.mk hK2; have HS2 := Aside0.mk hS2; replace HB := Aside0.mk hB2; have HM1 := Aside0.mk hm1; clear hS2 hB2 hK2 hm1 hc1))
  go_ret
  obtain ⟨ha, hl, hr, hr1, hne, hnew⟩ := HF.out
  have hsz : w.heap.size ≤ wb.heap.size := Nat.le_trans HBB.out.size HK.out.1
  refine ⟨?_, ⟨s0, R_mine HR.out HK2.out (fun k hk hp => hne k hp hk.symm)⟩, ⟨m1, Kd.S_mono HS2.out (fun k hk => hk.elim id (fun h => hnew k (Nat.le_trans hsz h)))⟩, HB.out, ?_⟩
  · rw [show r = r1 + (cntP l1 : Int) by omega]
    rfl
  · exact ((Kept.of_below HBB.out _).then_ HK.out (fun k hk => .inl (.inl hk))).then_ HK2.out (fun k hk => .inl (.inr hk))
end Go.Proofs.YtieohddolkeegaaGreatDoor.G

end
section
namespace Go.Proofs.YtieohddolkeegaaGreatDoor.VI
open Go Go.RowKit
set_option linter.unusedSimpArgs false
set_option linter.unusedVariables false
inductive VV where
 | s (v : Value)
 | sl (xs : List VV)
 | ag (cs : List VV)
 | tu (vs : List VV)
 | pt (t off : Nat)
 | vw (cs : List VV)
 | cl (f : FuncId) (cap : List VV)
 | sr (t n : Nat)
 | pe (t : Nat) (i : Int) (sz : Nat)
 | ow (e : TypeId) (z : Nat) (xs : List VV)
 | nl
 | bx (cs : List VV)
 | mr (e : TypeId) (sz : Nat) (xs : List VV)
 | un
instance : Inhabited VV := ⟨.un⟩
namespace VV
def cells : VV → List VV
 | .ag cs => cs
 | v => [v]
def dv : VV → VV
 | .ow _ _ xs => .sl xs
 | .nl => .sl []
 | v => v
def int (n : Int) : VV := .s (.int .i64 n)
def byte (n : Int) : VV := .s (.int .u8 n)
def str (b : ByteArray) : VV := .s (.string b)
def bool (b : Bool) : VV := .s (.bool b)
end VV
inductive TK where
 | ptr
 | agg (fs : List (Nat × Nat))
 | slice (e : TypeId)
 | str
 | bool
 | int (k : IntKind)
structure TI where
 sz : Nat
 bytes : Nat
 zero : List Value
 k : TK
structure Cx where
 ti : TypeId → Option TI
 call : FuncId → List VV → Option (VV × List VV)
 m : Nat
def bite {α : Type} (b : Bool) (x y : Option α) : Option α := match b with
 | true => x
 | false => y
@[reducible] def must {α : Type} (b : Bool) (x : Option α) : Option α := match b with
 | true => x
 | false => none
def obind {α β : Type} (x : Option α) (f : α → Option β) : Option β := match x with
 | some a => f a
 | none => none
def vget {β : Type} (xs : List VV) (i : Int) (f : VV → Option β) : Option β := match xs[i.toNat]? with
 | some a => f a
 | none => none
theorem obind_some {α β : Type} {x : Option α} {f : α → Option β} {r : β} (h : obind x f = some r) : ∃ a, x = some a ∧ f a = some r := by
 cases x with
 | none => cases h
 | some a => exact ⟨a, rfl, h⟩
def byL : List VV → Option (List Int)
 | [] => some []
 | .s (.int .u8 n) :: r => obind (byL r) fun l => some (n :: l)
 | _ => none
abbrev Env := List VV
def put (dst : Option Nat) (v : VV) (env : Env) : Env := match dst with
 | some d => env.set d v
 | none => env
def frc1 {α : Type} (v : VV) (k : VV → α) : α := match v with
 | .s x => k (.s x)
 | .sl xs => k (.sl xs)
 | .ag cs => k (.ag cs)
 | .tu vs => k (.tu vs)
 | .pt t o => k (.pt t o)
 | .vw cs => k (.vw cs)
 | .cl f c => k (.cl f c)
 | .sr t n => k (.sr t n)
 | .pe t i z => k (.pe t i z)
 | .ow e z xs => k (.ow e z xs)
 | .nl => k .nl
 | .bx cs => k (.bx cs)
 | .mr e z xs => k (.mr e z xs)
 | .un => k .un
def frcL {α : Type} : List VV → (List VV → α) → α
 | [], k => k []
 | v :: r, k => frc1 v fun v' => frcL r fun r' => k (v' :: r')
def frc {α : Type} (v : VV) (k : VV → α) : α := match v with
 | .ag cs => frcL cs fun c => k (.ag c)
 | .tu vs => frcL vs fun c => k (.tu c)
 | .vw cs => frcL cs fun c => k (.vw c)
 | .cl f cs => frcL cs fun c => k (.cl f c)
 | .bx cs => frcL cs fun c => k (.bx c)
 | .s x => k (.s x)
 | .sl xs => k (.sl xs)
 | .pt t o => k (.pt t o)
 | .sr t n => k (.sr t n)
 | .pe t i z => k (.pe t i z)
 | .ow e z xs => k (.ow e z xs)
 | .nl => k .nl
 | .mr e z xs => k (.mr e z xs)
 | .un => k .un
def setK {α : Type} : Nat → VV → Env → (Env → α) → α
 | _, _, [], k => k []
 | 0, v, _ :: r, k => k (v :: r)
 | n + 1, v, a :: r, k => setK n v r fun r' => k (a :: r')
def nth : Env → Nat → VV
 | [], _ => .un
 | a :: _, 0 => a
 | _ :: r, n + 1 => nth r n
def view (t : Nat) : VV → VV
 | .ow _ _ xs => .sl xs
 | .nl => .sl []
 | .bx _ => .pt t 0
 | .mr _ _ xs => .sr t xs.length
 | v => v
def cellOk : VV → Bool
 | .s (.agg _) => false
 | .s (.tuple _) => false
 | .s _ => true
 | .sl _ => true
 | .ow _ _ _ => true
 | .nl => true
 | _ => false
def liftc : Value → VV
 | .slice none 0 0 => .sl []
 | v => .s v
def lift : Value → VV
 | .slice none 0 0 => .sl []
 | .agg cs => (match cs.toList.all Value.oneCell' with
  | true => .ag (cs.toList.map liftc)
  | false => .un)
 | v => .s v
def zcell : Value → VV
 | .slice none 0 0 => .nl
 | v => .s v
def get (env : Env) (t : Nat) : VV := nth env t
def rdv (env : Env) : Operand → VV
 | .tmp t => view t (get env t)
 | .const v => lift v
 | .func f => .cl f []
 | .global _ => .un
def feeds (ops : List Oper) (t : Nat) : Bool := ops.any fun o => match o.op with
 | .call c => match c.callee with
  | .builtin .append => match c.args.toList with
   | .tmp u :: _ => Nat.beq u t
   | _ => false
  | _ => false
 | _ => false
def hands (ops : List Oper) (t : Nat) : Bool := match ops with
 | _ :: o :: _ => (match o.op with
  | .assign (.tmp u) => Nat.beq u t
  | _ => false)
 | _ => false
def fd (ops : List Oper) (dst : Option Nat) : Bool := match dst with
 | some d => feeds ops d || hands ops d
 | none => false
def refers (t : Nat) : VV → Bool
 | .pt u _ => Nat.beq u t
 | .sr u _ => Nat.beq u t
 | .pe u _ _ => Nat.beq u t
 | _ => false
def kill (t : Nat) : VV → VV
 | .pt u o => if Nat.beq u t then .un else .pt u o
 | .sr u n => if Nat.beq u t then .un else .sr u n
 | .pe u i z => if Nat.beq u t then .un else .pe u i z
 | .cl f cap => if cap.any (refers t) then .un else .cl f cap
 | v => v
def wr : IntKind → Int → Int
 | .i64, n => wrap64 n
 | .u8, n => n % 256
 | k, n => k.wrap n
def vint (op : BinOp) (k : IntKind) (x y : Int) : Option (Bool × Value) := match op with
 | .add => some (true, .int k (wr k (x + y)))
 | .sub => some (true, .int k (wr k (x - y)))
 | .mul => some (true, .int k (wr k (x * y)))
 | .quo => some (decide (¬ y = 0), .int k (wr k (x.tdiv y)))
 | .rem => some (decide (¬ y = 0), .int k (x.tmod y))
 | .eql => some (true, .bool (x == y))
 | .neq => some (true, .bool (x != y))
 | .lss => some (true, .bool (decide (x < y)))
 | .leq => some (true, .bool (decide (x ≤ y)))
 | .gtr => some (true, .bool (decide (x > y)))
 | .geq => some (true, .bool (decide (x ≥ y)))
 | .shr => some (decide (0 ≤ y), .int k (x.fdiv (2 ^ (min y.toNat k.bits))))
 | .and => some (true, .int k (k.wrap (BitVec.ofInt k.bits x &&& BitVec.ofInt k.bits y).toNat))
 | .xor => some (true, .int k (k.wrap (BitVec.ofInt k.bits x ^^^ BitVec.ofInt k.bits y).toNat))
 | _ => none
def vstr (op : BinOp) (x y : ByteArray) : Option (Bool × Value) := match op with
 | .add => some (decide (x.size + y.size ≤ 9223372036854775807), .string (x ++ y))
 | .eql => some (true, .bool (x.toList == y.toList))
 | .neq => some (true, .bool (!(x.toList == y.toList)))
 | .lss => some (true, .bool (Op.bytesLess x.toList y.toList))
 | .leq => some (true, .bool (!(Op.bytesLess y.toList x.toList)))
 | .gtr => some (true, .bool (Op.bytesLess y.toList x.toList))
 | .geq => some (true, .bool (!(Op.bytesLess x.toList y.toList)))
 | _ => none
def vbin (tb : Bool) (op : BinOp) (a b : VV) : Option (Bool × Value) := match a, b with
 | .s (.int k x), .s (.int k' y) => if k = k' then vint op k x y else (match op with | .shr => vint op k x y | _ => none)
 | .s (.string x), .s (.string y) => vstr op x y
 | .s (.bool x), .s (.bool y) => match tb, op with
  | true, .eql => some (true, .bool (x == y))
  | true, .neq => some (true, .bool (!(x == y)))
  | _, _ => none
 | _, _ => none
def vun (op : UnOp) (a : VV) : Option Value := match op, a with
 | .not, .s (.bool b) => some (.bool (!b))
 | .neg, .s (.int k n) => some (.int k (wr k (0 - n)))
 | _, _ => none
def bt (s : ByteArray) (i : Int) : Int := if h : i.toNat < s.size then ((s[i.toNat]'h).toNat : Int) else 0
section
variable {R : Type} (C : Cx) (ops : List Oper) (dr : Option (List Nat))
def cellsAt (cs : List VV) (off n : Nat) : Option (List VV) := if ((cs.drop off).take n).length = n then some ((cs.drop off).take n) else none
def mkv (i : TI) (c : List VV) : VV := match i.k with
 | .agg _ => .ag (c.map VV.dv)
 | _ => (c.headD .un).dv
def vload (i : TI) (cs : List VV) (off : Nat) : Option VV := match cellsAt cs off i.sz with
 | some c => some (mkv i c)
 | none => none
def setCells {α : Type} (cs : List α) (off : Nat) : List α → List α
 | [] => cs
 | v :: r => setCells (cs.set off v) (off + 1) r
def plain : VV → Bool
 | .bx _ => false
 | .mr _ _ _ => false
 | _ => true
def plainAt (env : Env) : Option Nat → Bool
 | some d => plain (get env d)
 | none => true
def refersD (t : Nat) : VV → Bool
 | .cl _ cap => cap.any (refers t)
 | v => refers t v
def getB (dr : Option (List Nat)) (env : Env) (t : Nat) : VV := match dr with
 | some l => (match l.any (Nat.beq t) with
  | true => .un
  | false => get env t)
 | none => get env t
def getL (dr : Option (List Nat)) (fdd : Bool) (env : Env) (x : Operand) (t : Nat) : VV := match dr, fdd with
 | some _, true => (match x with
  | .tmp u => (match Nat.beq u t with
   | true => get env t
   | false => .un)
  | _ => .un)
 | _, _ => getB dr env t
def drOk : VV → Bool
 | .pt _ _ => false
 | .cl _ cap => cap.all fun | .vw _ => true | _ => false
 | _ => true
def drArgs (dr : Option (List Nat)) (l : List VV) : Bool := match dr with
 | some _ => l.all drOk
 | none => true
def vset (t : Nat) (v : VV) (env : Env) (K : Env → Option R) : Option R := frc v fun v' => setK t v' env K
def vput (dst : Option Nat) (v : VV) (env : Env) (K : Env → Option R) : Option R := match dst with
 | none => K env
 | some d => (match dr with
  | some l => (match plain (get env d) && (plain v && l.all (fun t => !(refersD t v))) with
   | true => vset d v env K
   | false => none)
  | none => vset d v env K)
def vnew (d : Nat) (b : VV) (env : Env) (K : Env → Option R) : Option R := match dr with
 | some _ => (match env.any (refersD d) || !(plain (get env d)) with
  | false => vset d b env K
  | true => none)
 | none => frcL (env.map (kill d)) fun env' => vset d b env' K
def vmove (own : Bool) (dst : Option Nat) (x : Operand) (env : Env) (K : Env → Option R) : Option R := match x with
 | .tmp t => match get env t with
  | .ow e z xs => (match own with
   | true => vset t (.sl xs) env fun env' => vput dr dst (.ow e z xs) env' K
   | false => vput dr dst (.sl xs) env K)
  | .nl => (match own with
   | true => vput dr dst .nl env K
   | false => vput dr dst (.sl []) env K)
  | _ => vput dr dst (rdv env x) env K
 | .const (.slice none 0 0) => (match own with
   | true => vput dr dst .nl env K
   | false => vput dr dst (.sl []) env K)
 | _ => vput dr dst (rdv env x) env K
def vbnd : Option VV → Option (Option Int)
 | none => some none
 | some (.s (.int _ n)) => some (some n)
 | _ => none
def bndOk (n : Nat) (l h : Int) : Bool := decide (0 ≤ h) && decide (h ≤ (n : Int)) && (decide (0 ≤ l) && decide (l ≤ h))
def fillv (ti : TI) : List VV → List (Nat × VV) → Option (List VV)
 | cs, [] => some cs
 | cs, (i, v) :: rest => match ti.k with
  | .agg fs => match fs[i]? with
   | some (off, sz) => if v.cells.length = sz ∧ off + sz ≤ cs.length ∧ v.cells.all cellOk = true then fillv ti (setCells cs off v.cells) rest else none
   | none => none
  | _ => none
def fills (z : Nat) : List VV → List (Nat × VV) → Option (List VV)
 | cs, [] => some cs
 | cs, (i, v) :: rest => if v.cells.length = z ∧ i < cs.length ∧ v.cells.all cellOk = true then fills z (cs.set i v) rest else none
def zeroV (i : TI) : VV := match i.k with
 | .agg _ => .ag (i.zero.map liftc)
 | _ => (i.zero.map liftc).headD .un
def capv (env : Env) : VV → VV
 | .pt t o => match get env t with
  | .bx cs => .vw ((cs.map VV.dv).drop o)
  | _ => .un
 | v => v
def argv {α : Type} (env : Env) : List Operand → (List VV → List Nat → α) → α
 | [], k => k [] []
 | x :: r, k => match rdv env x with
  | .pt t o => (match o with
   | 0 => (match get env t with
    | .bx cs => argv env r fun vs io => k (.bx cs :: vs) (t :: io)
    | _ => argv env r fun vs io => k (.un :: vs) io)
   | _ + 1 => argv env r fun vs io => k (.un :: vs) io)
  | .cl f cap => frcL (cap.map (capv env)) fun cap' => argv env r fun vs io => k (.cl f cap' :: vs) io
  | v => argv env r fun vs io => k (v :: vs) io
def capK {α : Type} : List VV → List VV → (List VV → α) → α
 | [], cap, k => k cap
 | v :: r, cap, k => capK r cap fun l => k (v :: l)
def backs (env : Env) : List Nat → List VV → Env
 | t :: ts, v :: vs => backs (env.set t v) ts vs
 | _, _ => env
def backsK {R : Type} (env : Env) : List Nat → List VV → (Env → Option R) → Option R
 | t :: ts, v :: vs, K => vset t v env fun env' => backsK env' ts vs K
 | _, _, K => K env
def dataC : VV → Bool
 | .s _ => true
 | .sl _ => true
 | _ => false
def argOk : VV → Bool
 | .s _ => true
 | .sl _ => true
 | .ag _ => true
 | .vw _ => true
 | .bx cs => cs.all dataC
 | .cl _ cap => cap.all fun | .vw _ => true | _ => false
 | _ => false
def noCl : VV → Bool
 | .cl _ cap => cap.isEmpty
 | .vw _ => false
 | _ => true
def resOk : VV → Bool
 | .s _ => true
 | .sl _ => true
 | .ag _ => true
 | .tu _ => true
 | .ow _ _ _ => true
 | .nl => true
 | _ => false
def isPtr (C : Cx) (t : TypeId) : Bool := match C.ti t with
 | some i => (match i.k with
  | .ptr => true
  | _ => false)
 | none => true
def nodupB : List Nat → Bool
 | [] => true
 | a :: r => !(r.any (Nat.beq a)) && nodupB r
def isCap : VV → Bool
 | .pt _ _ => true
 | .vw _ => true
 | _ => false
def isBool (C : Cx) (t : TypeId) : Bool := match C.ti t with
 | some i => (match i.k with
  | .bool => true
  | _ => false)
 | none => false
def vcall (f : FuncId) (dst : Option Nat) (vs : List VV) (io : List Nat) (sio : Bool) (env : Env) (K : Env → Option R) : Option R :=
 match vs.all argOk && nodupB io && (io.isEmpty || (sio && vs.all noCl)) with
 | true => obind (C.call f vs) fun r => (match resOk r.1 with
  | true => backsK env io r.2 fun env' => vput dr dst r.1 env' K
  | false => none)
 | false => none
def vop (o : Oper) (env : Env) (K : Env → Option R) : Option R :=
  let val (v : VV) : Option R := vput dr o.dst v env K
  match o.op with
  | .move x => vmove dr (fd ops o.dst) o.dst x env K
  | .assign x => vmove dr true o.dst x env K
  | .pick c a b => match rdv env c with
    | .s (.bool t) => bite t (val (rdv env a)) (val (rdv env b))
    | _ => none
  | .unOp op _ x => match vun op (rdv env x) with
    | some v => val (.s v)
    | none => none
  | .binOp op t x y _ => match vbin (isBool C t) op (rdv env x) (rdv env y) with
    | some (b, v) => must b (val (.s v))
    | none => none
  | .alloc ty => match C.ti ty, o.dst with
    | some i, some d => vnew dr d (.bx (i.zero.map zcell)) env K
    | _, _ => none
  | .box ty x => match C.ti ty, o.dst with
    | some i, some d => if (rdv env x).cells.length = i.sz ∧ (rdv env x).cells.all cellOk = true then vnew dr d (.bx (rdv env x).cells) env K else none
    | _, _ => none
  | .load ty x => match C.ti ty with
    | none => none
    | some i => match rdv env x with
      | .vw cs => match vload i cs 0 with
        | some v => val v
        | none => none
      | .pt t off => match getL dr (fd ops o.dst) env x t with
        | .bx cs =>
          (match fd ops o.dst with
          | true => (match i.k, cs[off]? with
             | .slice _, some (.ow e z xs) => vset t (.bx (cs.set off (.sl xs))) env fun env' => vput dr o.dst (.ow e z xs) env' K
             | .slice _, some .nl => val .nl
             | _, _ => none)
          | false => (match vload i cs off with
            | some v => val v
            | none => none))
        | _ => none
      | _ => none
  | .store ty x y => match o.dst, C.ti ty with
    | none, some i => match rdv env x with
      | .pt t off => match get env t with
        | .bx cs => if (rdv env y).cells.length = i.sz ∧ off + i.sz ≤ cs.length ∧ (rdv env y).cells.all cellOk = true then
            (match y with
             | .tmp u => (match get env u with
               | .ow e z xs => vset u (.sl xs) env fun env' => vset t (.bx (cs.set off (.ow e z xs))) env' K
               | .nl => vset t (.bx (cs.set off .nl)) env K
               | _ => vset t (.bx (setCells cs off (rdv env y).cells)) env K)
             | _ => vset t (.bx (setCells cs off (rdv env y).cells)) env K) else none
        | _ => none
      | .pe t j sz => match get env t with
        | .mr e sz' xs => if (rdv env y).cells.length = i.sz ∧ i.sz = sz ∧ sz = sz' ∧ (rdv env y).cells.all cellOk = true then bite (decide (0 ≤ j) && decide (j < (xs.length : Int))) (frc (rdv env y) fun v => vset t (.mr e sz' (xs.set j.toNat v)) env K) none else none
        | _ => none
      | _ => none
    | _, _ => none
  | .nilCheck x => match rdv env x with
    | .pt t off => val (.pt t off)
    | _ => none
  | .fieldAddr st x f => match C.ti st with
    | some i => match i.k with
      | .agg fs => match fs[f]? with
        | some (off, sz) => if sz = 0 then none else match rdv env x with
          | .pt t o => val (.pt t (o + off))
          | .vw cs => val (.vw (cs.drop off))
          | _ => none
        | none => none
      | _ => none
    | none => none
  | .indexAddr t x ix => match C.ti t with
    | some i => match i.k with
      | .slice e => match C.ti e with
        | some ie => match rdv env x, rdv env ix with
          | .sl xs, .s (.int _ j) => bite (decide (0 ≤ j) && decide (j < (xs.length : Int))) (vget xs j fun v => if v.cells.length = ie.sz then val (.vw v.cells) else none) none
          | .sr u n, .s (.int _ j) => bite (decide (0 ≤ j) && decide (j < (n : Int))) (val (.pe u j ie.sz)) none
          | _, _ => none
        | none => none
      | _ => none
    | none => none
  | .index t x ix => match C.ti t with
    | some i => match i.k, rdv env x, rdv env ix with
      | .str, .s (.string s), .s (.int _ j) => bite (decide (0 ≤ j) && decide (j < (s.size : Int))) (val (.byte (bt s j))) none
      | _, _, _ => none
    | none => none
  | .extract x n => match rdv env x with
    | .tu vs => match vs[n]? with
      | some v => val v
      | none => none
    | _ => none
  | .build t parts => match C.ti t with
    | some i => match i.k with
      | .agg _ => (match fillv i (i.zero.map liftc) (parts.toList.map fun p => (p.1, rdv env p.2)) with
        | some cs => val (.ag cs)
        | none => none)
      | _ => none
    | none => none
  | .buildSlice t len parts => match C.ti t with
    | some i => match i.k with
      | .slice e => match C.ti e with
        | some ie => if 0 < ie.sz ∧ len * ie.sz ≤ 16777216 then (match fills ie.sz (List.replicate len (zeroV ie)) (parts.toList.map fun p => (p.1, rdv env p.2)) with
          | some xs => frcL xs fun xs' => val (.ow e ie.sz xs')
          | none => none) else none
        | none => none
      | _ => none
    | none => none
  | .makeSlice t l c => match C.ti t with
    | some i => match i.k with
      | .slice e => match C.ti e with
        | some ie => match rdv env l, rdv env c, o.dst with
          | .s (.int .i64 n), .s (.int .i64 n'), some d => if 0 < ie.sz ∧ 0 < ie.bytes then
              bite (decide (n' = n) && (decide (0 ≤ n) && decide (n.toNat * ie.bytes ≤ 281474976710656))) (vnew dr d (.mr e ie.sz (List.replicate n.toNat (zeroV ie))) env K) none else none
          | _, _, _ => none
        | none => none
      | _ => none
    | none => none
  | .makeFunc (.func f) first cap => if first.size = 0 then (match (cap.toList.map (rdv env)).all isCap with
    | true => val (.cl f (cap.toList.map (rdv env)))
    | false => none) else none
  | .convert src dst x => match C.ti src, C.ti dst with
    | some i, some j => match i.k, j.k, rdv env x with
      | .int _, .int k, .s (.int _ n) => val (.s (.int k (wr k n)))
      | .str, .str, .s (.string b) => val (.s (.string b))
      | .slice e, .str, .sl xs => (match C.ti e with
        | some ie => (match ie.k with
          | .int .u8 => obind (byL xs) fun l => val (.str (strOfNums l))
          | _ => none)
        | none => none)
      | _, _, _ => none
    | _, _ => none
  | .slice t x lo hi mx => match mx, C.ti t with
    | none, some i => match i.k, rdv env x with
      | .str, .s (.string s) => (match vbnd (lo.map (rdv env)), vbnd (hi.map (rdv env)) with
        | some l, some h => bite (bndOk s.size (l.getD 0) (h.getD s.size)) (val (.str (s.extract (l.getD 0).toNat (h.getD s.size).toNat))) none
        | _, _ => none)
      | .slice e, .sl xs => (match C.ti e, vbnd (lo.map (rdv env)), vbnd (hi.map (rdv env)) with
        | some ie, some l, some h => bite (bndOk xs.length (l.getD 0) (h.getD xs.length) && xs.all fun v => Nat.beq v.cells.length ie.sz) (val (.sl ((xs.take (h.getD xs.length).toNat).drop (l.getD 0).toNat))) none
        | _, _, _ => none)
      | _, _ => none
    | _, _ => none
  | .call c => match c.callee with
    | .builtin .len => match c.args.toList, c.argTypes.toList with
      | [x], [t] => match C.ti t with
        | some i => match i.k, rdv env x with
          | .str, .s (.string b) => val (.int b.size)
          | .slice _, .sl xs => val (.int xs.length)
          | .slice _, .sr _ n => val (.int n)
          | _, _ => none
        | none => none
      | _, _ => none
    | .builtin .min => match c.args.toList with
      | [x, y] => match rdv env x, rdv env y with
        | .s (.int k n), .s (.int k' n') => val (.s (.int k (if n' < n then n' else n)))
        | _, _ => none
      | _ => none
    | .builtin .append => match c.args.toList, c.argTypes.toList with
      | [.tmp u, y], [t, t'] => if Nat.beq t t' then (match C.ti t with
        | some i => match i.k with
          | .slice e => match C.ti e with
            | some ie => if 0 < ie.sz ∧ 0 < ie.bytes then (match get env u, rdv env y with
              | .ow e' z xs, .sl ys => if Nat.beq e' e && Nat.beq z ie.sz then bite (decide ((xs.length + ys.length) * ie.bytes ≤ 140737488355328) && ys.all fun v => Nat.beq v.cells.length ie.sz) (vset u (.sl xs) env fun env' => vput dr o.dst (.ow e ie.sz (xs ++ ys)) env' K) none else none
              | .nl, .sl ys => bite (decide (ys.length * ie.bytes ≤ 140737488355328) && ys.all fun v => Nat.beq v.cells.length ie.sz) (vset u (.sl []) env fun env' => vput dr o.dst (.ow e ie.sz ys) env' K) none
              | _, _ => none) else none
            | none => none
          | _ => none
        | none => none) else none
      | _, _ => none
    | .value x => match rdv env x with
      | .cl f cap => match drArgs dr (c.args.toList.map (rdv env)) && drArgs dr [.cl f cap] with
        | false => none
        | true => argv env c.args.toList fun vs io => frcL (cap.map (capv env)) fun cap' => capK vs cap' fun vs' => vcall C dr f o.dst vs' io (c.argTypes.toList.any (isPtr C)) env K
      | _ => none
    | _ => none
  | _ => none
def seen (ops : List Oper) (env : Env) (j : Nat) : Option (Option Bool) := match ops[j]? with
 | some o => match o.dst with
  | some t => match get env t with
   | .s (.bool b) => some (some b)
   | .s _ => some none
   | _ => none
  | none => none
 | none => none
def vops : List Oper → Env → (Env → Option R) → Option R
 | [], env, K => K env
 | o :: r, env, K => match o.guard with
  | none => vop C ops dr o env fun env' => vops r env' K
  | some (j, want) => match seen ops env j with
   | some (some b) => bite (b == want) (vop C ops dr o env fun env' => vops r env' K) (vput dr o.dst (.s undef) env fun env' => vops r env' K)
   | some none => vput dr o.dst (.s undef) env fun env' => vops r env' K
   | none => none
end
def clr (l : List Nat) : Nat → Env → Env
 | _, [] => []
 | i, v :: r => (match l.any (Nat.beq i) with
  | true => v
  | false => .un) :: clr l (i + 1) r
def clear : Option (List Nat) → Env → Env
 | none, env => env
 | some l, env => clr l 0 env
def clearK {α : Type} (l : Option (List Nat)) (env : Env) (k : Env → α) : α := frcL (clear l env) k
def iter {R : Type} (body : Env → (Exit → Env → Option R) → Option R) : Nat → Env → (Exit → Env → Option R) → Option R
 | 0, _, _ => none
 | n + 1, env, K => body env fun e env' => match e with
  | .normal => iter body n env' K
  | e => K e env'
def befores : List Oper → List Nat → List Nat
 | [], acc => acc
 | o :: r, acc => befores r (acc ++ [o.after.toList.foldl (fun s e => match Region.binds .any e with
  | true => s ||| (1 <<< e.on) ||| acc.getD e.on 0
  | false => s) 0])
def quietB (C : Cx) (ops : List Oper) (o : Oper) : Bool := match o.op with
 | .move _ => !(fd ops o.dst)
 | .load _ _ => !(fd ops o.dst)
 | .pick _ _ _ => true
 | .unOp _ _ _ => true
 | .binOp _ _ _ _ _ => true
 | .nilCheck _ => true
 | .fieldAddr _ _ _ => true
 | .indexAddr _ _ _ => true
 | .index _ _ _ => true
 | .extract _ _ => true
 | .build _ _ => true
 | .buildSlice _ _ _ => true
 | .makeFunc _ _ _ => true
 | .convert _ _ _ => true
 | .slice _ _ _ _ _ => true
 | .alloc _ => true
 | .call c => (match c.callee with
  | .builtin .len => true
  | .builtin .min => true
  | .value _ => !(c.argTypes.toList.any (isPtr C))
  | _ => false)
 | _ => false
def lowns (ops : List Oper) : List Nat := match ops with
 | o :: _ => (match o.op with
  | .load _ (.tmp t) => (match fd ops o.dst with
   | true => [t]
   | false => [])
  | _ => [])
 | [] => []
def allocs (ops : List Oper) : List Nat := ops.filterMap fun o => match o.op with
 | .alloc _ => o.dst
 | _ => none
def sdOf (ops : List Oper) (o : Oper) : Option Nat := match o.op with
 | .move (.tmp t) => (match fd ops o.dst with
  | true => some t
  | false => none)
 | .load _ (.tmp t) => (match fd ops o.dst with
  | true => some t
  | false => none)
 | .call c => (match c.callee, c.args.toList with
  | .builtin .append, [.tmp u, _] => some u
  | _, _ => none)
 | _ => none
def isLoad (o : Oper) : Bool := match o.op with
 | .load _ _ => true
 | _ => false
def ownMove (ops : List Oper) (o : Oper) : Bool := match sdOf ops o, o.guard, o.dst with
 | some t, none, some d => !(Nat.beq t d) && (!(isLoad o) || (lowns ops).any (Nat.beq t))
 | _, _, _ => false
def wl (ops : List Oper) (o : Oper) : List Nat := match o.dst, sdOf ops o with
 | some d, some t => [d, t]
 | some d, none => [d]
 | none, some t => [t]
 | none, none => []
def wrIn (ops : List Oper) (o : Oper) (l : List Nat) : Bool := (wl ops o).any fun d => l.any (Nat.beq d)
def quietN (bs : List Nat) : Nat → Nat
 | 0 => 0
 | n + 1 => match Nat.beq (bs.getD n 0) (2 ^ n - 1) with
  | true => quietN bs n
  | false => n + 1
def anyOrder (C : Cx) (ops : List Oper) : Bool :=
 let bs := befores ops []
 let n := quietN bs ops.length
 (List.range ops.length).all fun j => match ops[j]? with
  | none => false
  | some y => y.after.toList.all (fun e => !(Region.binds .any e) || Nat.blt e.on j) && (Nat.ble n j || ((quietB C ops y || ownMove ops y) && (List.range j).all fun i => match ops[i]? with
   | none => false
   | some x => (bs.getD j 0).testBit i || (!(wrIn ops x (wl ops y)) && (!(wrIn ops x (y.looksAt ops.toArray)) && !(wrIn ops y (x.looksAt ops.toArray))))))
def run {R : Type} (C : Cx) (kp : Nat → Option (List Nat)) : Code → Nat → Env → (Exit → Env → Option R) → Option R
 | .skip, _, env, K => K .normal env
 | .region _ ops draw, _, env, K => (match draw with
  | true => bite (anyOrder C ops.toList) (match (allocs ops.toList).any (fun d => env.any (refersD d)) with
   | false => vops C ops.toList (some (allocs ops.toList ++ lowns ops.toList)) ops.toList env (K .normal)
   | true => none) none
  | false => vops C ops.toList none ops.toList env (K .normal))
 | .seq x y, b, env, K => run C kp x b env fun e env' => match e with
  | .normal => run C kp y b env' K
  | e => K e env'
 | .cond c x y, b, env, K => (match rdv env c with
  | .s (.bool t) => bite t (run C kp x b env K) (run C kp y b env K)
  | _ => none)
 | .block id c, _, env, K => run C kp c id env fun e env' => match e with
  | .exit i => (match Nat.beq i id with
   | true => K .normal env'
   | false => K (.exit i) env')
  | e => K e env'
 | .loop c, b, env, K => iter (fun env' K' => clearK (kp b) env' fun e => run C kp c b e K') C.m env K
 | .exit id, _, env, K => K (.exit id) env
 | .ret, _, env, K => K .ret env
 | _, _, _, _ => none
def resv (ti : TypeId → Option TI) (env : Env) : ResultVar → Option VV
 | .tmp t => (match get env t with
  | .ow e z xs => some (.ow e z xs)
  | .nl => some .nl
  | .mr e z xs => some (.ow e z xs)
  | .sr u n => (match get env u with
   | .mr e z xs => must (Nat.beq xs.length n) (some (.ow e z xs))
   | _ => none)
  | .s v => some (.s v)
  | .sl xs => some (.sl xs)
  | .ag cs => some (.ag cs)
  | .tu cs => some (.tu cs)
  | _ => none)
 | .cell a ty => (match get env a, ti ty with
  | .bx cs, some i => vload i cs 0
  | _, _ => none)
def resvs (ti : TypeId → Option TI) (env : Env) : List ResultVar → Option (List VV)
 | [] => some []
 | r :: rs => match resv ti env r, resvs ti env rs with
  | some v, some vs => some (v.dv :: vs)
  | _, _ => none
def outs (env : Env) : Nat → List VV → Option (List VV)
 | _, [] => some []
 | _, .bx _ :: _ => none
 | i, _ :: r => outs env (i + 1) r
def fixnl (ti : TypeId → Option TI) (fn : Func) (v : VV) : VV := match v with
 | .nl => (match fn.resultTypes.toList with
  | [t] => (match ti t with
   | some i => (match i.k with
    | .slice e => (match ti e with
     | some ie => .ow e ie.sz []
     | none => .nl)
    | _ => .nl)
   | none => .nl)
  | _ => .nl)
 | v => v
def fin (ti : TypeId → Option TI) (fn : Func) (args : List VV) (env : Env) : Option (VV × List VV) :=
 match outs env 0 args with
 | some os => (match fn.results.toList with
  | [r] => (match resv ti env r with
   | some v => some (fixnl ti fn v, os)
   | none => none)
  | rs => (match resvs ti env rs with
   | some vs => some (.tu vs, os)
   | none => none))
 | none => none
def start (fn : Func) (args : List VV) : Env := args ++ List.replicate (fn.ntmps - args.length) .un
def body (C : Cx) (kp : Nat → Option (List Nat)) (fn : Func) (c : Code) (args : List VV) : Option (VV × List VV) :=
 run C kp c 0 (start fn args) fun e env => match e with
  | .normal => fin C.ti fn args env
  | .ret => fin C.ti fn args env
  | _ => none
def isBx : VV → Bool
 | .bx _ => true
 | _ => false
def callv (P : Program) (ti : TypeId → Option TI) (keep : FuncId → Nat → Option (List Nat)) (G : FuncId → Option (List VV → Option (VV × List VV))) : Nat → FuncId → List VV → Option (VV × List VV)
 | 0, _, _ => none
 | m + 1, f, args => match G f with
  | some g => g args
  | none => match P.funcs[f]? with
   | some fn => (match fn.name == "runtime.NumGoroutine" || args.any isBx, fn.body with
    | false, some c => body ⟨ti, callv P ti keep G m, m⟩ (keep f) fn c args
    | _, _ => none)
   | none => none
theorem callv_enter {P : Program} {ti : TypeId → Option TI} {keep : FuncId → Nat → Option (List Nat)} {G : FuncId → Option (List VV → Option (VV × List VV))} {m : Nat} {f : FuncId} {args : List VV} {fn : Func} {c : Code} (hG : G f = none) (hf : P.funcs[f]? = some fn) (hname : (fn.name == "runtime.NumGoroutine") = false) (hb : fn.body = some c) (hx : args.any isBx = false) :
  callv P ti keep G (m + 1) f args = body ⟨ti, callv P ti keep G m, m⟩ (keep f) fn c args := by
 rw [callv]; simp only [hG, hf, hname, hb, hx, Bool.or_self]
theorem callv_given {P : Program} {ti : TypeId → Option TI} {keep : FuncId → Nat → Option (List Nat)} {G : FuncId → Option (List VV → Option (VV × List VV))} {m : Nat} {f : FuncId} {args : List VV} {g : List VV → Option (VV × List VV)} (hG : G f = some g) :
  callv P ti keep G (m + 1) f args = g args := by
 rw [callv]; simp only [hG]
mutual
inductive DR (pd : Nat → Nat → Prop) (w : World) : VV → Value → Prop
 | s (v : Value) : DR pd w (.s v) v
 | un (m : Value) : DR pd w .un m
 | sl0 (A : Option Addr) (c : Nat) : DR pd w (.sl []) (.slice A 0 c)
 | sl (xs : List VV) (g off c sz : Nat) (ms : List Value) (hc : xs.length ≤ c) (hm : xs.length ≤ maxLen) (hz : ∀ x ∈ xs, x.cells.length = sz) (hr : DRs pd w (xs.flatMap VV.cells) ms) (h1 : ∀ m ∈ ms, m.oneCell' = true)
   (hw : ∀ (k : Nat) m, ms[k]? = some m → w.cell? ⟨g, off + k, none⟩ = some m ∧ pd g (off + k)) : DR pd w (.sl xs) (.slice (some ⟨g, off, none⟩) xs.length c)
 | ag (cs : List VV) (ms : List Value) (hr : DRs pd w cs ms) (h1 : ∀ m ∈ ms, m.oneCell' = true) : DR pd w (.ag cs) (.agg ms.toArray)
 | tu (cs : List VV) (ms : List Value) (hr : DRs pd w cs ms) : DR pd w (.tu cs) (.tuple ms.toArray)
inductive DRs (pd : Nat → Nat → Prop) (w : World) : List VV → List Value → Prop
 | nil : DRs pd w [] []
 | cons (v : VV) (m : Value) (vs : List VV) (ms : List Value) (h : DR pd w v m) (hs : DRs pd w vs ms) : DRs pd w (v :: vs) (m :: ms)
end
section
variable {pd pd' : Nat → Nat → Prop} {w w' : World}
mutual
theorem DR.keep (hk : ∀ g k m, pd g k → w.cell? ⟨g, k, none⟩ = some m → pd' g k ∧ w'.cell? ⟨g, k, none⟩ = some m) : ∀ {v : VV} {m : Value}, DR pd w v m → DR pd' w' v m
 | _, _, .s v => .s v
 | _, _, .un m => .un m
 | _, _, .sl0 A c => .sl0 A c
 | _, _, .sl xs g off c sz ms hc hm hz hr h1 hw => .sl xs g off c sz ms hc hm hz (DRs.keep hk hr) h1 fun k m h => let ⟨a, b⟩ := hk _ _ _ (hw k m h).2 (hw k m h).1; ⟨b, a⟩
 | _, _, .ag cs ms hr h1 => .ag cs ms (DRs.keep hk hr) h1
 | _, _, .tu cs ms hr => .tu cs ms (DRs.keep hk hr)
theorem DRs.keep (hk : ∀ g k m, pd g k → w.cell? ⟨g, k, none⟩ = some m → pd' g k ∧ w'.cell? ⟨g, k, none⟩ = some m) : ∀ {vs : List VV} {ms : List Value}, DRs pd w vs ms → DRs pd' w' vs ms
 | _, _, .nil => .nil
 | _, _, .cons v m vs ms h hs => .cons v m vs ms (DR.keep hk h) (DRs.keep hk hs)
end
theorem DRs.length {vs : List VV} {ms : List Value} (h : DRs pd w vs ms) : vs.length = ms.length := by
 induction vs generalizing ms with
 | nil => cases h; rfl
 | cons v vs ih => cases h with | cons _ m _ ms h hs => simp [ih hs]
theorem DRs.at {vs : List VV} {ms : List Value} (h : DRs pd w vs ms) : ∀ {i : Nat} {v : VV} {m : Value}, vs[i]? = some v → ms[i]? = some m → DR pd w v m := by
 induction vs generalizing ms with
 | nil => intro i v m hv; simp at hv
 | cons a vs ih =>
  cases h with
  | cons _ b _ ms h hs =>
   intro i v m hv hm
   cases i with
   | zero => simp at hv hm; subst hv; subst hm; exact h
   | succ i => exact ih hs (by simpa using hv) (by simpa using hm)
theorem DRs.of {vs : List VV} {ms : List Value} (hl : vs.length = ms.length) (h : ∀ (i : Nat) v m, vs[i]? = some v → ms[i]? = some m → DR pd w v m) : DRs pd w vs ms := by
 induction vs generalizing ms with
 | nil => cases ms with
  | nil => exact .nil
  | cons m ms => simp at hl
 | cons v vs ih => cases ms with
  | nil => simp at hl
  | cons m ms => exact .cons _ _ _ _ (h 0 v m rfl rfl) (ih (by simpa using hl) fun i a b ha hb => h (i + 1) a b (by simpa using ha) (by simpa using hb))
theorem DRs.get {vs : List VV} {ms : List Value} (h : DRs pd w vs ms) {i : Nat} {v : VV} (hv : vs[i]? = some v) : ∃ m, ms[i]? = some m ∧ DR pd w v m := by
 have hl := h.length
 have hi := (List.getElem?_eq_some_iff.1 hv).1
 exact ⟨ms[i]'(by omega), List.getElem?_eq_getElem (by omega), h.at hv (List.getElem?_eq_getElem (by omega))⟩
theorem DRs.app {vs vs' : List VV} {ms ms' : List Value} (h : DRs pd w vs ms) (h' : DRs pd w vs' ms') : DRs pd w (vs ++ vs') (ms ++ ms') := by
 induction vs generalizing ms with
 | nil => cases h; exact h'
 | cons v vs ih => cases h with | cons _ m _ ms h hs => exact .cons _ _ _ _ h (ih hs)
theorem DRs.take {vs : List VV} {ms : List Value} (h : DRs pd w vs ms) (n : Nat) : DRs pd w (vs.take n) (ms.take n) :=
 .of (by simp [h.length]) fun i v m hv hm => by
  rw [List.getElem?_take] at hv hm
  split at hv
  ·rename_i hi; rw [if_pos hi] at hm; exact h.at hv hm
  ·cases hv
theorem DRs.drop {vs : List VV} {ms : List Value} (h : DRs pd w vs ms) (n : Nat) : DRs pd w (vs.drop n) (ms.drop n) :=
 .of (by simp [h.length]) fun i v m hv hm => by
  rw [List.getElem?_drop] at hv hm; exact h.at hv hm
theorem DRs.set {vs : List VV} {ms : List Value} (h : DRs pd w vs ms) (n : Nat) {v : VV} {m : Value} (hv : DR pd w v m) : DRs pd w (vs.set n v) (ms.set n m) :=
 .of (by simp [h.length]) fun i a b ha hb => by
  rw [List.getElem?_set] at ha hb
  have := h.length
  by_cases hi : n = i
  ·subst hi
   rw [if_pos rfl] at ha hb
   split at ha
   ·rename_i hl; rw [if_pos (by omega)] at hb; cases ha; cases hb; exact hv
   ·cases ha
  ·rw [if_neg hi] at ha hb; exact h.at ha hb
theorem DR.cells {v : VV} {m : Value} (h : DR pd w v m) (hok : v.cells.all cellOk = true) : DRs pd w v.cells m.cells.toList ∧ ∀ u ∈ m.cells.toList, u.oneCell' = true := by
 cases h with
 | s =>
  simp only [VV.cells, List.all_cons, List.all_nil, Bool.and_true] at hok
  cases m <;> first
   | (simp [cellOk] at hok; done) | (simp only [Value.cells, VV.cells]; exact ⟨.cons _ _ _ _ (.s _) .nil, by intro u hu; simp at hu; subst hu; rfl⟩)
 | un => simp [VV.cells, cellOk] at hok
 | sl0 A c => simp only [Value.cells, VV.cells]; exact ⟨.cons _ _ _ _ (.sl0 A c) .nil, by intro u hu; simp at hu; subst hu; rfl⟩
 | sl xs g off c sz ms hc hm hz hr h1 hw => simp only [Value.cells, VV.cells]; exact ⟨.cons _ _ _ _ (.sl xs g off c sz ms hc hm hz hr h1 hw) .nil, by intro u hu; simp at hu; subst hu; rfl⟩
 | ag cs ms hr h1 => simp only [Value.cells, VV.cells]; exact ⟨hr, h1⟩
 | tu cs ms hr => simp [VV.cells, cellOk] at hok
theorem DR.dv {v : VV} {m : Value} (h : DR pd w v m) : v.dv = v := by cases h <;> rfl
theorem DRs.dv {vs : List VV} {ms : List Value} (h : DRs pd w vs ms) : vs.map VV.dv = vs := by
 induction vs generalizing ms with
 | nil => rfl
 | cons v vs ih => cases h with | cons _ m _ ms h hs => rw [List.map_cons, h.dv, ih hs]
end
structure Gh where
 pd : Nat → Nat → Prop
 pv : Nat → Nat → Prop
 bl : Nat → Nat
 own : Nat → Option (Nat × Nat)
 B : Nat
def OwnR (G : Gh) (w : World) (p : Nat × Nat) (e : TypeId) (sz : Nat) (xs : List VV) (m : Value) : Prop :=
 ∃ (ms : List Value), w.ownsRow G.B e sz m xs.length ms ∧ DRs G.pd w (xs.flatMap VV.cells) ms ∧ (∀ x ∈ xs, x.cells.length = sz) ∧ (∀ u ∈ ms, u.oneCell' = true) ∧ xs.length ≤ maxLen ∧
  ∀ g, m.ownBlock = some g → G.own g = some p ∧ ∀ k, G.pd g k ↔ k < xs.length * sz
def CellR (G : Gh) (w : World) (p : Nat × Nat) : VV → Value → Prop
 | .ow e z xs, m => OwnR G w p e z xs m
 | .nl, m => m = .slice none 0 0
 | v, m => DR G.pd w v m
def ViewR (G : Gh) (w : World) (cs : List VV) (m : Value) : Prop :=
 ∃ (g off : Nat) (ms : List Value), m = .pointer (some ⟨g, off, none⟩) ∧ DRs G.pd w cs ms ∧ (∀ u ∈ ms, u.oneCell' = true) ∧ ∀ (k : Nat) u, ms[k]? = some u → w.cell? ⟨g, off + k, none⟩ = some u ∧ G.pv g (off + k)
def CapR (G : Gh) (w : World) : VV → Value → Prop
 | .pt u o, m => m = .pointer (some ⟨G.bl u, o, none⟩)
 | .vw cs, m => ViewR G w cs m
 | _, _ => False
def BoxR (G : Gh) (w : World) (t : Nat) (cs : List VV) (m : Value) : Prop :=
 ∃ (ms : List Value) (ty : TypeId), m = .pointer (some ⟨G.bl t, 0, none⟩) ∧ w.heap[G.bl t]? = some (.cells ms.toArray ty (0, 0)) ∧ G.own (G.bl t) = some (t, 0) ∧ (∀ k, ¬ G.pd (G.bl t) k) ∧ cs.length = ms.length ∧ (∀ (i : Nat) v u, cs[i]? = some v → ms[i]? = some u → CellR G w (t, i + 1) v u) ∧ ∀ u ∈ ms, u.oneCell' = true
def MadeR (G : Gh) (w : World) (t : Nat) (e : TypeId) (sz : Nat) (xs : List VV) (m : Value) : Prop :=
 ∃ ms : List Value, m = .slice (some ⟨G.bl t, 0, none⟩) xs.length xs.length ∧ w.heap[G.bl t]? = some (.cells ms.toArray e (0, 0)) ∧ G.own (G.bl t) = some (t, 0) ∧ (∀ k, ¬ G.pd (G.bl t) k) ∧ DRs G.pd w (xs.flatMap VV.cells) ms ∧ (∀ x ∈ xs, x.cells.length = sz) ∧ (∀ u ∈ ms, u.oneCell' = true) ∧ xs.length ≤ maxLen ∧ 0 < sz ∧ G.B ≤ G.bl t
def SlotR (G : Gh) (w : World) (t : Nat) : VV → Value → Prop
 | .ow e z xs, m => OwnR G w (t, 0) e z xs m
 | .nl, m => m = .slice none 0 0
 | .bx cs, m => BoxR G w t cs m
 | .mr e sz xs, m => MadeR G w t e sz xs m
 | .pt u o, m => m = .pointer (some ⟨G.bl u, o, none⟩)
 | .sr u n, m => m = .slice (some ⟨G.bl u, 0, none⟩) n n
 | .pe u i sz, m => m = .pointer (some ⟨G.bl u, i.toNat * sz, none⟩)
 | .vw cs, m => ViewR G w cs m
 | .cl f cap, m => ∃ ms : List Value, m = .func (.func f) #[] ms.toArray ∧ cap.length = ms.length ∧ ∀ (i : Nat) v u, cap[i]? = some v → ms[i]? = some u → CapR G w v u
 | v, m => DR G.pd w v m
theorem SlotR.un {G : Gh} {w : World} {t : Nat} {m : Value} : SlotR G w t .un m := DR.un m
structure Evo (G : Gh) (w : World) (G' : Gh) (w' : World) (T L : Nat → Prop) : Prop where
 d : ∀ g k m, G.pd g k → w.cell? ⟨g, k, none⟩ = some m → G'.pd g k ∧ w'.cell? ⟨g, k, none⟩ = some m
 v : ∀ g k m, G.pv g k → w.cell? ⟨g, k, none⟩ = some m → G'.pv g k ∧ w'.cell? ⟨g, k, none⟩ = some m
 b : ∀ g t j o, G.own g = some (t, j) → w.heap[g]? = some o → ¬ T t → w'.heap[g]? = some o ∧ G'.own g = some (t, j) ∧ ∀ k, G'.pd g k ↔ G.pd g k
 l : ∀ t, ¬ L t → G'.bl t = G.bl t
 bb : G'.B = G.B
section
variable {G G' : Gh} {w w' : World} {T L : Nat → Prop}
theorem own_heap {B : Nat} {e : TypeId} {sz n g : Nat} {m : Value} {ms : List Value} (h : w.ownsRow B e sz m n ms) (hg : m.ownBlock = some g) : ∃ o, w.heap[g]? = some o := by
 rcases h.2 with ⟨rfl, _⟩ | ⟨g', cap, cur, rfl, _, hh, _⟩
 ·simp [Value.ownBlock] at hg
 ·simp [Value.ownBlock] at hg; subst hg; exact ⟨_, hh⟩
theorem own_moves {B : Nat} {e : TypeId} {sz n : Nat} {m : Value} {ms : List Value} (h : w.ownsRow B e sz m n ms) (hb : ∀ g o, m.ownBlock = some g → w.heap[g]? = some o → w'.heap[g]? = some o) : w'.ownsRow B e sz m n ms := by
 refine ⟨h.1, ?_⟩
 rcases h.2 with hn | ⟨g, cap, cur, rfl, h0, hh, rest⟩
 ·exact .inl hn
 ·exact .inr ⟨g, cap, cur, rfl, h0, hb g _ rfl hh, rest⟩
theorem OwnR.keep {p : Nat × Nat} {e : TypeId} {sz : Nat} {xs : List VV} {m : Value} (E : Evo G w G' w' T L) (hp : ¬ T p.1) (h : OwnR G w p e sz xs m) : OwnR G' w' p e sz xs m := by
 obtain ⟨ms, ho, hr, hz, h1, hl, hg⟩ := h
 refine ⟨ms, E.bb ▸ own_moves ho (fun g o hgb hh => (E.b g p.1 p.2 o (hg g hgb).1 hh hp).1), hr.keep E.d, hz, h1, hl, fun g hgb => ?_⟩
 obtain ⟨o, hh⟩ := own_heap ho hgb
 obtain ⟨_, h2, h3⟩ := E.b g p.1 p.2 o (hg g hgb).1 hh hp
 exact ⟨h2, fun k => (h3 k).trans ((hg g hgb).2 k)⟩
theorem CellR.keep {p : Nat × Nat} {v : VV} {m : Value} (E : Evo G w G' w' T L) (hp : ¬ T p.1) (h : CellR G w p v m) : CellR G' w' p v m := by
 cases v <;> first | exact OwnR.keep E hp h | exact DR.keep E.d h | exact h
theorem ViewR.keep {cs : List VV} {m : Value} (E : Evo G w G' w' T L) (h : ViewR G w cs m) : ViewR G' w' cs m := by
 obtain ⟨g, off, ms, rfl, hr, h1, hc⟩ := h
 exact ⟨g, off, ms, rfl, hr.keep E.d, h1, fun k u hu => let ⟨a, b⟩ := E.v _ _ _ (hc k u hu).2 (hc k u hu).1; ⟨b, a⟩⟩
theorem CapR.keep {v : VV} {m : Value} (E : Evo G w G' w' T L) (hr : ∀ u, L u → refers u v = false) (h : CapR G w v m) : CapR G' w' v m := by
  cases v <;> first
    | exact ViewR.keep E h
    | (rename_i u o; have hn : ¬ L u := fun hT => by have := hr u hT; simp [refers] at this
       show _ = _; rw [E.l u hn]; exact h)
    | exact h.elim
theorem BoxR.keep {t : Nat} {cs : List VV} {m : Value} (E : Evo G w G' w' T L) (hp : ¬ T t) (hq : ¬ L t) (h : BoxR G w t cs m) : BoxR G' w' t cs m := by
 obtain ⟨ms, ty, rfl, hh, ho, hn, hl, hc, h1⟩ := h
 obtain ⟨a, b, c⟩ := E.b _ t 0 _ ho hh hp
 refine ⟨ms, ty, by rw [E.l t hq], by rw [E.l t hq]; exact a, by rw [E.l t hq]; exact b, fun k hk => hn k ((c k).1 (by rw [E.l t hq] at hk; exact hk)), hl, fun i v u hv hu => CellR.keep E hp (hc i v u hv hu), h1⟩
theorem MadeR.keep {t : Nat} {e : TypeId} {sz : Nat} {xs : List VV} {m : Value} (E : Evo G w G' w' T L) (hp : ¬ T t) (hq : ¬ L t) (h : MadeR G w t e sz xs m) : MadeR G' w' t e sz xs m := by
 obtain ⟨ms, rfl, hh, ho, hn, hr, hz, h1, hl, h0, hB⟩ := h
 obtain ⟨a, b, c⟩ := E.b _ t 0 _ ho hh hp
 exact ⟨ms, by rw [E.l t hq], by rw [E.l t hq]; exact a, by rw [E.l t hq]; exact b, fun k hk => hn k ((c k).1 (by rw [E.l t hq] at hk; exact hk)), hr.keep E.d, hz, h1, hl, h0, by rw [E.bb, E.l t hq]; exact hB⟩
theorem SlotR.keep {t : Nat} {v : VV} {m : Value} (E : Evo G w G' w' T L) (hp : ¬ T t) (hq : ¬ L t) (hr : ∀ u, L u → refersD u v = false) (h : SlotR G w t v m) : SlotR G' w' t v m := by
  cases v <;> first
    | exact DR.keep E.d h | exact OwnR.keep E hp h | exact BoxR.keep E hp hq h | exact MadeR.keep E hp hq h | exact ViewR.keep E h
    | (obtain ⟨ms, rfl, hl, hc⟩ := h
       refine ⟨ms, rfl, hl, fun i v u hv hu => CapR.keep E (fun x hx => ?_) (hc i v u hv hu)⟩
       have h2 := hr x hx
       simp only [refersD, List.any_eq_false] at h2
       simpa using h2 v (List.mem_of_getElem? hv))
    | (rename_i u _; have hn : ¬ L u := fun hT => by have := hr u hT; simp [refersD, refers] at this
       show _ = _; rw [E.l u hn]; exact h)
    | (rename_i u _ _; have hn : ¬ L u := fun hT => by have := hr u hT; simp [refersD, refers] at this
       show _ = _; rw [E.l u hn]; exact h)
    | exact h
end
theorem hao_ (w : World) (o : Obj) (i : Nat) (h : i < w.heap.size) : (w.alloc o).heap[i]? = w.heap[i]? := by
 show (w.heap.push o)[i]? = _
 rw [Array.getElem?_push_lt h, Array.getElem?_eq_getElem h]
structure Fr (io : List Nat) (B : Nat) (w w' : World) : Prop where
 os : w'.os = w.os
 tape : w'.tape = w.tape
 output : w'.output = w.output
 size : w.heap.size ≤ w'.heap.size
 block : ∀ k, k < B → k ∉ io → w'.heap[k]? = w.heap[k]?
theorem Fr.refl (io : List Nat) (B : Nat) (w : World) : Fr io B w w := ⟨rfl, rfl, rfl, Nat.le_refl _, fun _ _ _ => rfl⟩
theorem Fr.trans {io : List Nat} {B : Nat} {a b c : World} (h : Fr io B a b) (k : Fr io B b c) : Fr io B a c :=
 ⟨k.os.trans h.os, k.tape.trans h.tape, k.output.trans h.output, Nat.le_trans h.size k.size, fun i h1 h2 => (k.block i h1 h2).trans (h.block i h1 h2)⟩
theorem Fr.alloc {io : List Nat} {B : Nat} {a b : World} (h : Fr io B a b) (hB : B ≤ a.heap.size) (o : Obj) : Fr io B a (b.alloc o) :=
 ⟨h.os, h.tape, h.output, Nat.le_trans h.size (by simp), fun i h1 h2 => (hao_ b o i (by have := h.size; omega)).trans (h.block i h1 h2)⟩
structure TIok (P : Program) (ti : TypeId → Option TI) : Prop where
 info : ∀ t i, ti t = some i → ∃ inf z, P.info? t = some inf ∧ inf.zero = some z ∧ z.cells.toList = i.zero ∧ inf.size = i.sz ∧ inf.bytes = i.bytes ∧ i.zero.length = i.sz ∧ (∀ v ∈ i.zero, v.oneCell' = true) ∧ (match i.k with
  | .agg _ => ∃ c, z = .agg c
  | _ => i.sz = 1)
 kind : ∀ t i, ti t = some i → match i.k with
  | .agg fs => ∃ fields, P.underlying t = some (.struct fields) ∧ fields.size = fs.length ∧ ∀ (j : Nat) o z, fs[j]? = some (o, z) → ∃ f inf, fields[j]? = some f ∧ f.offset = o ∧ P.info? f.type = some inf ∧ inf.size = z
  | .slice e => P.underlying t = some (.slice e)
  | .str => P.underlying t = some .string
  | .bool => P.underlying t = some .bool
  | .int k => P.underlying t = some (.int k)
  | .ptr => ∃ e, P.underlying t = some (.pointer e)
structure Sim (NG : Nat) (GW : World → Prop) (io : List Nat) (w0 : World) (pd0 : Nat → Nat → Prop) (G : Gh) (env : Env) (a : Act) (w : World) : Prop where
 size : env.length = a.tmps.size
 slot : ∀ (t : Nat) v m, env[t]? = some v → a.tmps[t]? = some m → SlotR G w t v m
 df : a.defers = []
 fr : Fr io w0.heap.size w0 w
 gw : GW w
 ng : NG ≤ w0.heap.size
 ngio : ∀ g ∈ io, NG ≤ g
 own : ∀ g p, G.own g = some p → g < w.heap.size ∧ (w0.heap.size ≤ g ∨ g ∈ io)
 ownp : ∀ g k, G.own g ≠ none → G.pv g k → G.pd g k
 dv : ∀ g k, G.pd g k → G.pv g k
 B : G.B = w0.heap.size
 old : ∀ g k, g < w0.heap.size → G.pd g k → pd0 g k
def VR (G : Gh) (w : World) : VV → Value → Prop
 | .ow _ _ _, _ => False
 | .nl, _ => False
 | .bx _, _ => False
 | .mr _ _ _, _ => False
 | v, m => SlotR G w 0 v m
theorem VR.slot {G : Gh} {w : World} {v : VV} {m : Value} (h : VR G w v m) (t : Nat) : SlotR G w t v m := by cases v <;> first | exact h | exact h.elim
theorem VR.of_dr {G : Gh} {w : World} {v : VV} {m : Value} (h : DR G.pd w v m) : VR G w v m := by cases h <;> (show DR G.pd w _ _) <;> constructor <;> assumption
theorem nth_some {env : Env} {t : Nat} {v : VV} (h : env[t]? = some v) : nth env t = v := by
 induction env generalizing t with
 | nil => simp at h
 | cons a r ih => cases t with
  | zero => simpa [nth] using h
  | succ t => exact ih (by simpa using h)
theorem nth_none {env : Env} {t : Nat} (h : env[t]? = none) : nth env t = .un := by
 induction env generalizing t with
 | nil => cases t <;> rfl
 | cons a r ih => cases t with
  | zero => simp at h
  | succ t => exact ih (by simpa using h)
theorem frc1_eq {α : Type} (v : VV) (k : VV → α) : frc1 v k = k v := by cases v <;> rfl
theorem frcL_eq {α : Type} : ∀ (l : List VV) (k : List VV → α), frcL l k = k l
 | [], _ => rfl
 | v :: r, k => by rw [frcL, frc1_eq, frcL_eq r]
theorem frc_eq {α : Type} (v : VV) (k : VV → α) : frc v k = k v := by cases v <;> first | rfl | (rw [frc, frcL_eq])
theorem setK_eq {α : Type} : ∀ (n : Nat) (v : VV) (env : Env) (k : Env → α), setK n v env k = k (env.set n v)
 | _, _, [], _ => by simp [setK]
 | 0, _, _ :: _, _ => rfl
 | n + 1, v, a :: r, k => by rw [setK, setK_eq n v r]; rfl
section
variable {R : Type} {K : Env → Option R}
theorem vset_eq (t : Nat) (v : VV) (env : Env) : vset t v env K = K (env.set t v) := by rw [vset, frc_eq, setK_eq]
theorem vput_some {dr : Option (List Nat)} {dst : Option Nat} {v : VV} {env : Env} {r : R} (h : vput dr dst v env K = some r) : K (put dst v env) = some r := by
 cases dst with
 | none => exact h
 | some d =>
  cases dr with
  | none => simpa [vput, vset_eq, put] using h
  | some l =>
   simp only [vput] at h
   split at h
   ·simpa [vset_eq, put] using h
   ·cases h
theorem clearK_eq {α : Type} (l : Option (List Nat)) (env : Env) (k : Env → α) : clearK l env k = k (clear l env) := frcL_eq _ _
end
section
variable {P : Program} {NG : Nat} {GW : World → Prop} {io : List Nat} {w0 : World} {pd0 : Nat → Nat → Prop} {G G' : Gh} {env : Env} {a : Act} {w w' : World}
theorem OwnR.dr {p : Nat × Nat} {e : TypeId} {sz : Nat} {xs : List VV} {m : Value} (h : OwnR G w p e sz xs m) : DR G.pd w (.sl xs) m := by
 obtain ⟨ms, ho, hr, hz, h1, hl, hg⟩ := h
 rcases ho.2 with ⟨rfl, hn⟩ | ⟨g, cap, cur, rfl, h0, hh, hnc, hcm, hcs, htk⟩
 ·obtain rfl : xs = [] := List.eq_nil_of_length_eq_zero hn
  exact .sl0 _ _
 ·refine .sl xs g 0 cap sz ms hnc hl hz hr h1 fun k u hu => ?_
  have hk : k < xs.length * sz := by rw [← ho.1]; exact (List.getElem?_eq_some_iff.1 hu).1
  refine ⟨?_, by rw [Nat.zero_add]; exact ((hg g rfl).2 k).2 hk⟩
  have h2 := ho.cells (g := g) rfl k u hu
  have hadd : (⟨g, 0, none⟩ : Addr).add k = ⟨g, 0 + k, none⟩ := by unfold Addr.add; split <;> simp_all
  rw [hadd] at h2; exact h2
theorem view_rel {t : Nat} {v : VV} {m : Value} (h : SlotR G w t v m) : VR G w (view t v) m := by
 cases v <;> first
  | exact h | exact VR.of_dr (OwnR.dr h) | (obtain ⟨ms, ty, rfl, _⟩ := h; exact rfl) | (obtain ⟨ms, rfl, _⟩ := h; exact rfl) | (cases h; exact VR.of_dr (.sl0 _ _))
theorem get_rel (hs : Sim NG GW io w0 pd0 G env a w) (t : Nat) : ∃ v, get env t = v ∧ SlotR G w t v (a.eval (.tmp t)) := by
 refine ⟨_, rfl, ?_⟩
 cases h : env[t]? with
 | none => rw [get, nth_none h]; exact SlotR.un
 | some v =>
  rw [get, nth_some h]
  have ht : t < a.tmps.size := by rw [← hs.size]; exact (List.getElem?_eq_some_iff.1 h).1
  have := hs.slot t v (a.tmps[t]) h (Array.getElem?_eq_getElem ht)
  simpa [Act.eval, ht] using this
theorem get_slot (hs : Sim NG GW io w0 pd0 G env a w) (t : Nat) : SlotR G w t (get env t) (a.eval (.tmp t)) := let ⟨v, h, k⟩ := get_rel hs t; h ▸ k
theorem liftc_rel (v : Value) : DR G.pd w (liftc v) v := by
 unfold liftc; split
 ·exact .sl0 _ _
 ·exact .s _
theorem liftcs_rel : ∀ ms : List Value, DRs G.pd w (ms.map liftc) ms
 | [] => .nil
 | m :: ms => .cons _ _ _ _ (liftc_rel m) (liftcs_rel ms)
theorem lift_rel (v : Value) : VR G w (lift v) v := by
 unfold lift
 split
 ·exact VR.of_dr (.sl0 _ _)
 ·rename_i cs
  split
  ·rename_i h
   have := DR.ag (pd := G.pd) (w := w) _ _ (liftcs_rel cs.toList) (by rw [List.all_eq_true] at h; exact h)
   exact VR.of_dr (by simpa using this)
  ·exact VR.of_dr (.un _)
 ·exact VR.of_dr (.s _)
theorem rdv_rel (hs : Sim NG GW io w0 pd0 G env a w) (x : Operand) : VR G w (rdv env x) (a.eval x) := by
 cases x with
 | tmp t => exact view_rel (get_slot hs t)
 | const v => exact lift_rel v
 | global g => exact VR.of_dr (.un _)
 | func f => exact ⟨[], rfl, rfl, fun i v u h => by simp at h⟩
theorem Sim.put (hs : Sim NG GW io w0 pd0 G env a w) (dst : Option Nat) {v : VV} {m : Value} (h : ∀ d, dst = some d → SlotR G w d v m) : Sim NG GW io w0 pd0 G (put dst v env) (a.put dst m) w := by
 cases dst with
 | none => exact hs
 | some d =>
  refine { hs with size := by simpa [VI.put, Act.put] using hs.size, slot := ?_ }
  intro t u n hu hn
  simp only [VI.put, Act.put] at hu hn
  rw [List.getElem?_set] at hu
  rw [Array.getElem?_setIfInBounds] at hn
  by_cases hd : d = t
  ·subst hd
   rw [if_pos rfl] at hu hn
   split at hu
   ·rename_i hl; rw [if_pos (by rw [← hs.size]; exact hl)] at hn
    cases hu; cases hn; exact h d rfl
   ·cases hu
  ·rw [if_neg hd] at hu hn
   exact hs.slot t u n hu hn
theorem Sim.evo {T L : Nat → Prop} {env' : Env} (hs : Sim NG GW io w0 pd0 G env a w) (E : Evo G w G' w' T L) (hl : env'.length = env.length)
  (hk : ∀ (t : Nat) v' m, env'[t]? = some v' → a.tmps[t]? = some m → (∃ v, env[t]? = some v ∧ v' = v ∧ ¬ T t ∧ ¬ L t ∧ ∀ u, L u → refersD u v = false) ∨ SlotR G' w' t v' m)
  (hf : Fr io w0.heap.size w0 w') (hg : GW w') (ho : ∀ g p, G'.own g = some p → g < w'.heap.size ∧ (w0.heap.size ≤ g ∨ g ∈ io)) (hp : ∀ g k, G'.own g ≠ none → G'.pv g k → G'.pd g k) (hdv : ∀ g k, G'.pd g k → G'.pv g k) (hold : ∀ g k, g < w0.heap.size → G'.pd g k → pd0 g k) : Sim NG GW io w0 pd0 G' env' a w' where
 size := hl.trans hs.size
 slot t v m hv hm := by
  rcases hk t v m hv hm with ⟨u, hu, rfl, h1, h2, h3⟩ | h
  ·exact SlotR.keep E h1 h2 h3 (hs.slot t _ m hu hm)
  ·exact h
 df := hs.df
 fr := hf
 gw := hg
 ng := hs.ng
 ngio := hs.ngio
 own := ho
 ownp := hp
 dv := hdv
 B := E.bb.trans hs.B
 old := hold
theorem kill_none {t : Nat} {v : VV} (h : refersD t v = false) : kill t v = v := by
 cases v <;> simp_all [refersD, refers, kill]
theorem nbeq_false {a b : Nat} (h : ¬ a = b) : Nat.beq a b = false := by
 cases hb : Nat.beq a b
 ·rfl
 ·exact absurd (Nat.eq_of_beq_eq_true hb) h
theorem kill_refers (t : Nat) (v : VV) : refersD t (kill t v) = false := by
 cases v <;> simp only [kill] <;> (try split) <;> simp_all [refersD, refers, nbeq_false]
theorem kill_slot {t d : Nat} {v : VV} {m : Value} (h : SlotR G w t v m) : SlotR G w t (kill d v) m := by
 by_cases hr : refersD d v = false
 ·rw [kill_none hr]; exact h
 ·have : kill d v = .un := by
   cases v <;> simp_all [refersD, refers, kill]
  rw [this]; exact SlotR.un
theorem Sim.fresh (hs : Sim NG GW io w0 pd0 G env a w) (gws : ∀ w w', GW w → Below NG w w' → GW w') (d : Nat) (b : VV) (ms : List Value) (ty : TypeId) (m : Value)
  (hb : ∀ G' : Gh, G'.B ≤ w.heap.size → G'.bl d = w.heap.size → G'.own w.heap.size = some (d, 0) → (∀ k, ¬ G'.pd w.heap.size k) → (∀ v m, DR G.pd w v m → DR G'.pd (w.alloc (.cells ms.toArray ty)) v m) → SlotR G' (w.alloc (.cells ms.toArray ty)) d b m) :
  ∃ G', Sim NG GW io w0 pd0 G' ((env.map (kill d)).set d b) (a.put (some d) m) (w.alloc (.cells ms.toArray ty)) := by
 let g := w.heap.size
 let G' : Gh := ⟨fun x k => x ≠ g ∧ G.pd x k, fun x k => x ≠ g ∧ G.pv x k, fun t => if t = d then g else G.bl t, fun x => if x = g then some (d, 0) else G.own x, G.B⟩
 have hlt : ∀ x k m, w.cell? ⟨x, k, none⟩ = some m → x ≠ g := fun x k m h e => by have := World.block_lt_of_cell? w _ h; simp only [g] at e; simp at this; omega
 have hkeep : ∀ x k m, w.cell? ⟨x, k, none⟩ = some m → (w.alloc (.cells ms.toArray ty)).cell? ⟨x, k, none⟩ = some m := fun x k m h => by
  rw [World.cell?_of_block (hao_ w _ x (by have := World.block_lt_of_cell? w _ h; simpa using this))]; exact h
 have E : Evo G w G' (w.alloc (.cells ms.toArray ty)) (fun _ => False) (fun t => t = d) := by
  refine ⟨fun x k m h1 h2 => ⟨⟨hlt x k m h2, h1⟩, hkeep x k m h2⟩, fun x k m h1 h2 => ⟨⟨hlt x k m h2, h1⟩, hkeep x k m h2⟩, ?_, fun t ht => if_neg ht, rfl⟩
  intro x t j o h1 h2 _
  have hx : x < w.heap.size := (Array.getElem?_eq_some_iff.1 h2).1
  have hne : x ≠ g := by simp only [g]; omega
  exact ⟨(hao_ w _ x hx).trans h2, by simp only [G', if_neg hne]; exact h1, fun k => ⟨fun h => h.2, fun h => ⟨hne, h⟩⟩⟩
 refine ⟨G', ?_⟩
 have hsim : Sim NG GW io w0 pd0 G' ((env.map (kill d)).set d .un) a (w.alloc (.cells ms.toArray ty)) := by
  refine hs.evo E (by simp) ?_ (hs.fr.alloc (Nat.le_refl _) _) (gws _ _ hs.gw ((Below.refl _ w).alloc (by have := hs.ng; have := hs.fr.size; omega) _)) ?_ ?_ ?_ (fun x k h1 h2 => hs.old x k h1 h2.2)
  ·intro t v m hv hm
   by_cases htd : t = d
   ·subst htd
    rw [List.getElem?_set, if_pos rfl] at hv
    split at hv
    ·cases hv; exact .inr SlotR.un
    ·cases hv
   ·rw [List.getElem?_set, if_neg (fun e => htd e.symm), List.getElem?_map] at hv
    obtain ⟨u, hu, rfl⟩ := Option.map_eq_some_iff.1 hv
    refine .inr (SlotR.keep E id htd (fun x hx => ?_) (kill_slot (hs.slot t u m hu hm)))
    subst hx; exact kill_refers _ _
  ·intro x p hx
   simp only [G'] at hx
   split at hx
   ·rename_i e; subst e; exact ⟨by simp [g], .inl (by simp only [g]; exact hs.fr.size)⟩
   ·have := hs.own x p hx; exact ⟨by simp; omega, this.2⟩
  ·intro x k hx hk
   simp only [G'] at hx hk ⊢
   rw [if_neg hk.1] at hx
   exact ⟨hk.1, hs.ownp x k hx hk.2⟩
  ·exact fun x k hk => ⟨hk.1, hs.dv x k hk.2⟩
 have := hsim.put (some d) (v := b) (m := m) fun d' hd => by
  cases hd
  exact hb G' (by show G.B ≤ _; rw [hs.B]; exact hs.fr.size) (if_pos rfl) (if_pos rfl) (fun k hk => hk.1 rfl) fun v m h => h.keep E.d
 simpa [VI.put] using this
end
section
variable {P : Program} {NG : Nat} {GW : World → Prop} {io : List Nat} {w0 : World} {pd0 : Nat → Nat → Prop} {G G' : Gh} {env : Env} {a : Act} {w w' : World}
def rehome (G : Gh) (m : Value) (p : Nat × Nat) : Gh := { G with own := fun g => if m.ownBlock = some g then some p else G.own g }
theorem OwnR.home {p p' : Nat × Nat} {e : TypeId} {sz : Nat} {xs : List VV} {m : Value} (h : OwnR G w p e sz xs m) : OwnR (rehome G m p') w p' e sz xs m := by
 obtain ⟨ms, ho, hr, hz, h1, hl, hg⟩ := h
 exact ⟨ms, ho, hr, hz, h1, hl, fun g hgb => ⟨if_pos hgb, (hg g hgb).2⟩⟩
theorem OwnR.other {p p' q : Nat × Nat} {e e' : TypeId} {sz sz' : Nat} {xs ys : List VV} {m u : Value} (h : OwnR G w p e sz xs m) (k : OwnR G w q e' sz' ys u) (hq : q ≠ p) : OwnR (rehome G m p') w q e' sz' ys u := by
 obtain ⟨ms, ho, hr, hz, h1, hl, hg⟩ := k
 refine ⟨ms, ho, hr, hz, h1, hl, fun g hgb => ⟨?_, (hg g hgb).2⟩⟩
 by_cases hm : m.ownBlock = some g
 ·obtain ⟨_, _, _, _, _, _, hg'⟩ := h
  exact absurd ((hg g hgb).1.symm.trans (hg' g hm).1) (fun e => hq (Option.some.inj e))
 ·simp only [rehome, if_neg hm]; exact (hg g hgb).1
theorem OwnR.evo {p p' : Nat × Nat} {e : TypeId} {sz : Nat} {xs : List VV} {m : Value} (h : OwnR G w p e sz xs m) : Evo G w (rehome G m p') w (fun t => t = p.1) (fun _ => False) := by
 refine ⟨fun _ _ _ a b => ⟨a, b⟩, fun _ _ _ a b => ⟨a, b⟩, ?_, fun _ _ => rfl, rfl⟩
 intro g t j o h1 h2 h3
 refine ⟨h2, ?_, fun _ => Iff.rfl⟩
 by_cases hm : m.ownBlock = some g
 ·obtain ⟨_, _, _, _, _, _, hg'⟩ := h
  have := h1.symm.trans (hg' g hm).1
  exact absurd (congrArg Prod.fst (Option.some.inj this)) h3
 ·simp only [rehome, if_neg hm]; exact h1
theorem OwnR.owns {p p' : Nat × Nat} {e : TypeId} {sz : Nat} {xs : List VV} {m : Value} (h : OwnR G w p e sz xs m) (hs : Sim NG GW io w0 pd0 G env a w) : ∀ g q, (rehome G m p').own g = some q → g < w.heap.size ∧ (w0.heap.size ≤ g ∨ g ∈ io) := by
 intro g q hq
 by_cases hm : m.ownBlock = some g
 ·obtain ⟨_, _, _, _, _, _, hg'⟩ := h
  exact hs.own g p (hg' g hm).1
 ·simp only [rehome, if_neg hm] at hq; exact hs.own g q hq
theorem OwnR.ownsp {p p' : Nat × Nat} {e : TypeId} {sz : Nat} {xs : List VV} {m : Value} (h : OwnR G w p e sz xs m) (hs : Sim NG GW io w0 pd0 G env a w) : ∀ g k, (rehome G m p').own g ≠ none → (rehome G m p').pv g k → (rehome G m p').pd g k := by
 intro g k hq hk
 by_cases hm : m.ownBlock = some g
 ·obtain ⟨_, _, _, _, _, _, hg'⟩ := h
  exact hs.ownp g k (by rw [(hg' g hm).1]; simp) hk
 ·simp only [rehome, if_neg hm] at hq; exact hs.ownp g k hq hk
theorem Sim.give (hs : Sim NG GW io w0 pd0 G env a w) {t d : Nat} {e : TypeId} {sz : Nat} {xs : List VV} (ht : get env t = .ow e sz xs) :
  ∃ G', Sim NG GW io w0 pd0 G' (VI.put (some d) (.ow e sz xs) (env.set t (.sl xs))) (a.put (some d) (a.eval (.tmp t))) w := by
 have h : OwnR G w (t, 0) e sz xs (a.eval (.tmp t)) := by have := get_slot hs t; rw [ht] at this; exact this
 refine ⟨rehome G (a.eval (.tmp t)) (d, 0), ?_⟩
 refine Sim.put (hs.evo h.evo (by simp) ?_ hs.fr hs.gw (h.owns hs) (h.ownsp hs) hs.dv hs.old) (some d) (fun d' hd => by cases hd; exact h.home)
 intro u v m hv hm
 by_cases hu : t = u
 ·subst hu
  rw [List.getElem?_set, if_pos rfl] at hv
  split at hv
  ·cases hv
   have hq : a.eval (.tmp t) = m := by
    obtain ⟨hlt, rfl⟩ := Array.getElem?_eq_some_iff.1 hm
    simp [Act.eval, hlt]
   rw [← hq]
   exact .inr (VR.slot (VR.of_dr (OwnR.dr h.home)) _)
  ·cases hv
 ·rw [List.getElem?_set, if_neg hu] at hv
  exact .inl ⟨v, hv, rfl, fun e => hu e.symm, id, fun _ h => h.elim⟩
section
variable {R : Type} {K : Env → Option R} {r : R} {next : Act → World → Prop} {Q : Exit → Act → World → Prop} {o : Oper} {C : Cx} {ops : List Oper} {dr : Option (List Nat)}
theorem wp_value {m : Value} (hrun : (execOp a.eval o).run P w = .ok (.value m) w') (h : next (a.put o.dst m) w') : o.wp P a w next Q := by
 unfold Oper.wp; rw [hrun]; exact h
theorem wp_skip' (hrun : (execOp a.eval o).run P w = .ok .skip w') (h : next (a.put o.dst undef) w') : o.wp P a w next Q := by
 unfold Oper.wp; rw [hrun]; exact h
abbrev Nx (NG : Nat) (GW : World → Prop) (io : List Nat) (w0 : World) (pd0 : Nat → Nat → Prop) (K : Env → Option R) (r : R) (next : Act → World → Prop) : Prop := ∀ G' env' a' w', Sim NG GW io w0 pd0 G' env' a' w' → K env' = some r → next a' w'
theorem val_sound {v : VV} {m : Value} (hs : Sim NG GW io w0 pd0 G env a w) (hn : Nx NG GW io w0 pd0 K r next) (hrun : (execOp a.eval o).run P w = .ok (.value m) w) (hv : VR G w v m) (h : vput dr o.dst v env K = some r) : o.wp P a w next Q :=
 wp_value hrun (hn _ _ _ _ (hs.put o.dst fun d _ => hv.slot d) (vput_some h))
theorem move_sound {own : Bool} {x : Operand} (hs : Sim NG GW io w0 pd0 G env a w) (hn : Nx NG GW io w0 pd0 K r next) (hrun : (execOp a.eval o).run P w = .ok (.value (a.eval x)) w) (h : vmove dr own o.dst x env K = some r) : o.wp P a w next Q := by
 unfold vmove at h
 split at h
 ·rename_i t
  split at h
  ·rename_i e sz xs ht
   split at h
   ·rw [vset_eq] at h
    have h2 := vput_some h
    cases hd : o.dst with
    | none =>
     refine wp_value hrun (hn G _ _ _ ?_ h2)
     rw [hd]
     have h' : OwnR G w (t, 0) e sz xs (a.eval (.tmp t)) := by have := get_slot hs t; rw [ht] at this; exact this
     have hp := hs.put (some t) (v := .sl xs) (m := a.eval (.tmp t)) (fun d hd => by cases hd; exact VR.slot (VR.of_dr h'.dr) _)
     have ha : a.put (some t) (a.eval (.tmp t)) = a := by
      simp only [Act.put, Act.eval]
      congr 1
      by_cases hlt : t < a.tmps.size
      ·refine Array.ext (by simp) fun i h1 h2 => ?_
       rw [Array.getElem_setIfInBounds (by simpa using h1)]
       split
       ·rename_i e; subst e; simp [hlt]
       ·rfl
      ·simp [Array.setIfInBounds, hlt]
     rw [ha] at hp
     exact hp
    | some d =>
     obtain ⟨G', hg⟩ := hs.give (d := d) ht
     refine wp_value hrun (hn G' _ _ _ ?_ h2)
     rw [hd]; exact hg
   ·have h' : OwnR G w (t, 0) e sz xs (a.eval (.tmp t)) := by have := get_slot hs t; rw [ht] at this; exact this
    exact val_sound hs hn hrun (VR.of_dr h'.dr) h
  ·rename_i ht
   have h' : a.eval (.tmp t) = .slice none 0 0 := by have := get_slot hs t; rw [ht] at this; exact this
   split at h
   ·exact wp_value hrun (hn _ _ _ _ (hs.put o.dst fun d _ => (show SlotR G w d .nl _ from h')) (vput_some h))
   ·rw [h'] at hrun; exact val_sound hs hn hrun (VR.of_dr (.sl0 _ _)) h
  ·exact val_sound hs hn hrun (rdv_rel hs _) h
 ·split at h
  ·exact wp_value hrun (hn _ _ _ _ (hs.put o.dst fun d _ => (show SlotR G w d .nl _ from rfl)) (vput_some h))
  ·exact val_sound hs hn hrun (VR.of_dr (.sl0 _ _)) h
 ·exact val_sound hs hn hrun (rdv_rel hs _) h
theorem bite_some {α : Type} {b : Bool} {x y : Option α} {r : α} (h : bite b x y = some r) : (b = true ∧ x = some r) ∨ (b = false ∧ y = some r) := by
 cases b
 ·exact .inr ⟨rfl, h⟩
 ·exact .inl ⟨rfl, h⟩
theorem must_some {α : Type} {b : Bool} {x : Option α} {r : α} (h : must b x = some r) : b = true ∧ x = some r := by
 cases b
 ·cases h
 ·exact ⟨rfl, h⟩
theorem VR.sv {v m : Value} (h : VR G w (.s v) m) : m = v := by cases h; rfl
theorem wr_eq (k : IntKind) (n : Int) : wr k n = k.wrap n := by
 cases k <;> simp only [wr]
 ·simp [IntKind.wrap, IntKind.signed, IntKind.bits, wrap64]; omega
 ·simp [IntKind.wrap, IntKind.signed, IntKind.bits]
theorem vint_run {op : BinOp} {k : IntKind} {x y : Int} {b : Bool} {v : Value} (h : vint op k x y = some (b, v)) (hb : b = true) (t : TypeId) (yk : IntKind) (hk : (op = .shr) ∨ k = yk) : (binOp op t (.int k x) (.int yk y)).run P w = .ok v w := by
  subst hb
  cases op <;> simp only [vint, Option.some.injEq, Prod.mk.injEq, reduceCtorEq] at h <;> first
    | (obtain ⟨h1, rfl⟩ := h
       have hk' : k = yk := by simpa using hk
       subst hk'
       simp [binOp, Op.intArith, Op.intDiv, Op.intBits, Op.intCmp, wr_eq] at h1 ⊢ <;> simp_all)
    | (obtain ⟨h1, rfl⟩ := h
       have h2 : ¬ y < 0 := by simp at h1; omega
       simp [binOp, Op.shift, h2])
theorem vstr_run {op : BinOp} {x y : ByteArray} {b : Bool} {v : Value} (h : vstr op x y = some (b, v)) (hb : b = true) (t : TypeId) : (binOp op t (.string x) (.string y)).run P w = .ok v w := by
  subst hb
  cases op <;> simp only [vstr, Option.some.injEq, Prod.mk.injEq, reduceCtorEq] at h <;> first
    | (obtain ⟨h1, rfl⟩ := h
       first
         | (rw [Go.Proofs.YtieohddolkeegaaGreatDoor.G.str_gtr]; rfl) | (rw [Go.Proofs.YtieohddolkeegaaGreatDoor.G.str_leq]; rfl) | (rw [Go.Proofs.YtieohddolkeegaaGreatDoor.G.str_geq]; rfl) | (simp [binOp, Op.stringOp]; done)
         | (have h2 : ¬ ((x.size + y.size : Nat) : Int) > IntKind.i64.max := by
              have : x.size + y.size ≤ 9223372036854775807 := by simpa using h1
              simp [IntKind.max, IntKind.signed, IntKind.bits]; omega
            simp [binOp, Op.stringOp] at h2 ⊢; omega))
end
end
section
variable {α : Type}
theorem setCells_len : ∀ (vs : List α) (cs : List α) (off : Nat), (setCells cs off vs).length = cs.length
 | [], _, _ => rfl
 | v :: r, cs, off => by rw [setCells, setCells_len r]; simp
theorem setCells_eq : ∀ (vs : List α) (cs : List α) (off : Nat), off + vs.length ≤ cs.length → setCells cs off vs = cs.take off ++ vs ++ cs.drop (off + vs.length)
 | [], cs, off, _ => by simp [setCells]
 | v :: r, cs, off, h => by
  have hl : off < cs.length := by simp at h; omega
  rw [setCells, setCells_eq r (cs.set off v) (off + 1) (by simp at h ⊢; omega)]
  have h1 : (cs.set off v).take (off + 1) = cs.take off ++ [v] := by
   rw [List.take_add_one, List.take_set_of_le (Nat.le_refl _)]
   simp [hl]
  have h2 : (cs.set off v).drop (off + 1 + r.length) = cs.drop (off + (v :: r).length) := by
   rw [List.drop_set_of_lt (by omega)]
   simp; congr 1; omega
  rw [h1, h2]; simp
theorem fold_setCells : ∀ (vs : List α) (cs : Array α) (off i : Nat), ((vs.zipIdx i).foldl (fun cs (x : α × Nat) => cs.setIfInBounds (off + x.2) x.1) cs).toList = setCells cs.toList (off + i) vs
 | [], _, _, _ => rfl
 | v :: r, cs, off, i => by
  rw [List.zipIdx_cons, List.foldl_cons, fold_setCells r, setCells]
  simp [Nat.add_assoc]
end
section
variable {pd : Nat → Nat → Prop} {w : World}
theorem DRs.setCells : ∀ {us : List VV} {ns : List Value} {vs : List VV} {ms : List Value} (off : Nat), DRs pd w us ns → DRs pd w vs ms → DRs pd w (VI.setCells vs off us) (VI.setCells ms off ns)
 | _, _, _, _, _, .nil, h => h
 | _, _, _, _, off, .cons _ _ _ _ h hs, h' => DRs.setCells (off + 1) hs (h'.set off h)
theorem setCells_all {α : Type} {p : α → Prop} : ∀ (us : List α) (ms : List α) (off : Nat), (∀ u ∈ us, p u) → (∀ u ∈ ms, p u) → ∀ u ∈ setCells ms off us, p u
 | [], _, _, _, h => h
 | v :: r, ms, off, hu, hm => setCells_all r (ms.set off v) (off + 1) (fun u h => hu u (by simp [h])) (fun u h => by
  rcases List.mem_or_eq_of_mem_set h with h | h
  ·exact hm u h
  ·exact h ▸ hu v (by simp))
end
section
variable {z : Nat} {xs : List VV}
theorem flat_len : ∀ {xs : List VV}, (∀ x ∈ xs, x.cells.length = z) → (xs.flatMap VV.cells).length = xs.length * z
 | [], _ => by simp
 | x :: r, h => by
  rw [List.flatMap_cons, List.length_append, h x (by simp), flat_len fun y hy => h y (by simp [hy]), List.length_cons, Nat.succ_mul, Nat.add_comm]
theorem flat_take : ∀ {xs : List VV} (n : Nat), (∀ x ∈ xs, x.cells.length = z) → (xs.flatMap VV.cells).take (n * z) = (xs.take n).flatMap VV.cells
 | [], n, _ => by simp
 | x :: r, 0, _ => by simp
 | x :: r, n + 1, h => by
  have hx := h x (by simp)
  rw [List.flatMap_cons, List.take_succ_cons, List.flatMap_cons, ← flat_take n fun y hy => h y (by simp [hy]), Nat.succ_mul, List.take_append, hx]
  rw [List.take_of_length_le (by omega)]
  congr 2; omega
theorem flat_drop : ∀ {xs : List VV} (n : Nat), (∀ x ∈ xs, x.cells.length = z) → (xs.flatMap VV.cells).drop (n * z) = (xs.drop n).flatMap VV.cells
 | [], n, _ => by simp
 | x :: r, 0, _ => by simp
 | x :: r, n + 1, h => by
  have hx := h x (by simp)
  rw [List.flatMap_cons, List.drop_succ_cons, ← flat_drop n fun y hy => h y (by simp [hy]), Nat.succ_mul, List.drop_append, hx]
  rw [List.drop_of_length_le (by omega), List.nil_append]
  congr 1; omega
theorem flat_elem {i : Nat} {x : VV} (h : ∀ x ∈ xs, x.cells.length = z) (hx : xs[i]? = some x) : ((xs.flatMap VV.cells).drop (i * z)).take z = x.cells := by
 obtain ⟨hi, rfl⟩ := List.getElem?_eq_some_iff.1 hx
 rw [flat_drop i h, List.drop_eq_getElem_cons hi, List.flatMap_cons, List.take_append, h _ (List.getElem_mem hi)]
 simp [List.take_of_length_le (Nat.le_of_eq (h _ (List.getElem_mem hi)))]
theorem flat_set {i : Nat} {v : VV} (h : ∀ x ∈ xs, x.cells.length = z) (hi : i < xs.length) (hv : v.cells.length = z) : (xs.set i v).flatMap VV.cells = setCells (xs.flatMap VV.cells) (i * z) v.cells := by
  rw [setCells_eq _ _ _ (by rw [flat_len h, hv]; calc i * z + z = (i + 1) * z := (Nat.succ_mul _ _).symm
                                _ ≤ xs.length * z := Nat.mul_le_mul_right _ hi)]
  rw [flat_take i h, hv, show i * z + z = (i + 1) * z from (Nat.succ_mul _ _).symm, flat_drop (i + 1) h, List.set_eq_take_append_cons_drop, if_pos hi]
  simp
theorem widths_set {i : Nat} {v : VV} (h : ∀ x ∈ xs, x.cells.length = z) (hv : v.cells.length = z) : ∀ x ∈ xs.set i v, x.cells.length = z := by
 intro x hx
 rcases List.mem_or_eq_of_mem_set hx with hx | hx
 ·exact h x hx
 ·exact hx ▸ hv
theorem repl_get {α : Type} (l : List α) (hl : 0 < l.length) : ∀ (n k : Nat), (List.replicate n l).flatten[k]? = if k < n * l.length then l[k % l.length]? else none
 | 0, k => by simp
 | n + 1, k => by
  rw [List.replicate_succ, List.flatten_cons]
  by_cases hk : k < l.length
  ·rw [List.getElem?_append_left hk, if_pos (by rw [Nat.succ_mul]; omega), Nat.mod_eq_of_lt hk]
  ·rw [List.getElem?_append_right (by omega), repl_get l hl n (k - l.length)]
   rw [Nat.mod_eq_sub_mod (a := k) (by omega), Nat.succ_mul]
   by_cases h : k - l.length < n * l.length
   ·rw [if_pos h, if_pos (by omega)]
   ·rw [if_neg h, if_neg (by omega)]
theorem made_list (z : Array Value) (hz : 0 < z.size) (n : Nat) : ((Array.range (n * z.size)).map (z[· % z.size]!)).toList = (List.replicate n z.toList).flatten := by
 refine List.ext_getElem? fun k => ?_
 rw [repl_get _ (by simpa using hz)]
 simp only [Array.length_toList, Array.toList_map, Array.toList_range, List.getElem?_map]
 by_cases hk : k < n * z.size
 ·rw [if_pos hk, List.getElem?_range hk]
  have := Nat.mod_lt k hz
  simp [this]
 ·rw [if_neg hk]
  simp; omega
end
section
variable {P : Program} {ti : TypeId → Option TI} {G : Gh} {w : World}
theorem zeroV_cells {i : TI} (hti : TIok P ti) {t : TypeId} (hi : ti t = some i) : (zeroV i).cells = i.zero.map liftc := by
  obtain ⟨inf, z, h1, h2, h3, h4, h5, h6, h7, h8⟩ := hti.info t i hi
  unfold zeroV
  cases hk : i.k <;> simp only [hk] at h8 ⊢ <;> first
    | rfl
    | (have hl : i.zero.length = 1 := h6.trans h8
       match hz : i.zero, hl with
       | [a], _ => simp only [List.map_cons, List.map_nil, List.headD_cons]; unfold liftc; split <;> rfl)
theorem repl_flat {v : VV} : ∀ n, (List.replicate n v).flatMap VV.cells = (List.replicate n v.cells).flatten
 | 0 => rfl
 | n + 1 => by rw [List.replicate_succ, List.flatMap_cons, repl_flat n, List.replicate_succ, List.flatten_cons]
theorem DRs.repl {pd : Nat → Nat → Prop} {cs : List VV} {ms : List Value} (h : DRs pd w cs ms) : ∀ n, DRs pd w (List.replicate n cs).flatten (List.replicate n ms).flatten
 | 0 => .nil
 | n + 1 => by rw [List.replicate_succ, List.replicate_succ, List.flatten_cons, List.flatten_cons]; exact h.app (DRs.repl h n)
end
end Go.Proofs.YtieohddolkeegaaGreatDoor.VI

end
section
namespace Go.Proofs.YtieohddolkeegaaGreatDoor.VI
open Go Go.RowKit
set_option linter.unusedVariables false
set_option linter.unusedSimpArgs false
section
variable {P : Program} {NG : Nat} {GW : World → Prop} {io : List Nat} {w0 : World} {pd0 : Nat → Nat → Prop} {G G' : Gh} {env : Env} {a : Act} {w w' : World} {ti : TypeId → Option TI}
variable {R : Type} {K : Env → Option R} {r : R} {next : Act → World → Prop} {Q : Exit → Act → World → Prop} {o : Oper} {C : Cx} {ops : List Oper} {dr : Option (List Nat)}
def isAgg' (i : TI) : Bool := match i.k with
 | .agg _ => true
 | _ => false
theorem run_isAgg' (hti : TIok P ti) {t : TypeId} {i : TI} (hi : ti t = some i) : (isAgg t).run P w = .ok (isAgg' i) w := by
 have hk := hti.kind t i hi
 unfold isAgg isAgg'
 cases h : i.k <;> simp only [h] at hk
 all_goals first
  | (obtain ⟨fs, hu, _⟩ := hk; simp [run_underlying hu]; done) | (obtain ⟨e, hu⟩ := hk; simp [run_underlying hu]; done) | (simp [run_underlying hk]; done)
theorem run_sizeOf' (hti : TIok P ti) {t : TypeId} {i : TI} (hi : ti t = some i) : (sizeOf t).run P w = .ok i.sz w := by
 obtain ⟨inf, z, h1, h2, h3, h4, h5, h6, h7, h8⟩ := hti.info t i hi
 simp [sizeOf, typeInfo, h1, h4]
def ldv (i : TI) (ms : List Value) : Value := if isAgg' i then .agg ms.toArray else ms.headD undef
theorem run_load' (hti : TIok P ti) {t : TypeId} {i : TI} (hi : ti t = some i) {g off : Nat} {ms : List Value} (hl : ms.length = i.sz) (hc : ∀ (k : Nat) u, ms[k]? = some u → w.cell? ⟨g, off + k, none⟩ = some u) :
  (Instr.loadAt t (.pointer (some ⟨g, off, none⟩))).run P w = .ok (ldv i ms) w := by
 have hc' : ∀ j v, ms[j]? = some v → w.cell? ((⟨g, off, none⟩ : Addr).add j) = some v := fun j v h => by rw [Addr.add_lit]; exact hc j v h
 have hr := run_loadCells_list (P := P) (w := w) ⟨g, off, none⟩ ms hc'
 unfold Instr.loadAt Instr.sureAddr loadVar ldv
 cases hagg : isAgg' i
 ·obtain ⟨inf, z, h1, h2, h3, h4, h5, h6, h7, h8⟩ := hti.info t i hi
  have h1' : i.sz = 1 := by
   unfold isAgg' at hagg
   cases h : i.k <;> simp [h] at hagg h8 <;> exact h8
  match ms, hl with
  | [m], _ =>
   have := hc 0 m rfl
   simp [run_isAgg' hti hi, hagg] at this ⊢
   rw [this]
  | [], hl => simp at hl; omega
  | _ :: _ :: _, hl => simp at hl; omega
 ·simp [run_isAgg' hti hi, hagg, run_sizeOf' hti hi]
  rw [← hl, hr]; rfl
theorem mkv_rel {pd : Nat → Nat → Prop} (hti : TIok P ti) {t : TypeId} {i : TI} (hi : ti t = some i) {c : List VV} {ms : List Value} (hr : DRs pd w (c.map VV.dv) ms) (hl : c.length = i.sz) (h1 : ∀ u ∈ ms, u.oneCell' = true) : DR pd w (mkv i c) (ldv i ms) := by
  obtain ⟨inf, z, _, h2, h3, h4, h5, h6, h7, h8⟩ := hti.info t i hi
  unfold mkv ldv isAgg'
  cases hk : i.k <;> simp only [hk] at h8 ⊢ <;> first
    | exact .ag _ _ hr h1
    | (match c, ms, hr, hl with
       | [v], [m], .cons _ _ _ _ h _, _ => exact h
       | [], _, _, hl => simp at hl; omega
       | _ :: _ :: _, _, _, hl => simp at hl; omega)
theorem cellsAt_some {cs c : List VV} {off n : Nat} (h : cellsAt cs off n = some c) : c = (cs.drop off).take n ∧ c.length = n := by
 unfold cellsAt at h
 split at h
 ·cases h; exact ⟨rfl, by assumption⟩
 ·cases h
theorem CellR.data {p : Nat × Nat} {v : VV} {m : Value} (h : CellR G w p v m) : DR G.pd w v.dv m := by
 cases v <;> first
  | (have h' : DR G.pd w _ m := h; rw [← h'.dv] at h'; exact h') | exact OwnR.dr h | (cases h; exact .sl0 _ _)
theorem drop_take_get {α : Type} {l : List α} {off n k : Nat} {v : α} (h : ((l.drop off).take n)[k]? = some v) : l[off + k]? = some v := by
 rw [List.getElem?_take] at h
 split at h
 ·rwa [List.getElem?_drop] at h
 ·cases h
theorem vload_view (hti : TIok P ti) {t : TypeId} {i : TI} (hi : ti t = some i) {cs : List VV} {off : Nat} {v : VV} {m : Value} (hv : vload i cs off = some v) (h : ViewR G w cs m) : ∃ g o, m = .pointer (some ⟨g, o, none⟩) ∧ ∃ u, (Instr.loadAt t (.pointer (some ⟨g, o + off, none⟩))).run P w = .ok u w ∧ DR G.pd w v u := by
 obtain ⟨g, o, ms, rfl, hr, h1, hc⟩ := h
 unfold vload at hv
 split at hv
 ·rename_i c hcc
  cases hv
  obtain ⟨rfl, hl⟩ := cellsAt_some hcc
  have hd := (hr.drop off).take i.sz
  refine ⟨g, o, rfl, ldv i ((ms.drop off).take i.sz), run_load' hti hi (by rw [← hd.length]; exact hl) (fun k u hu => ?_), mkv_rel hti hi (by rw [hd.dv]; exact hd) hl fun u hu => h1 u (List.mem_of_mem_drop (List.mem_of_mem_take hu))⟩
  have := hc (off + k) u (drop_take_get hu)
  rw [Nat.add_assoc]; exact this.1
 ·cases hv
theorem box_cell {g : Nat} {ms : List Value} {ty : TypeId} {fr : Nat × Nat} (hh : w.heap[g]? = some (.cells ms.toArray ty fr)) (k : Nat) : w.cell? ⟨g, k, none⟩ = ms[k]? := by
 simp [World.cell?, hh]
theorem vload_box (hti : TIok P ti) {t : TypeId} {i : TI} (hi : ti t = some i) {u : Nat} {cs : List VV} {off : Nat} {v : VV} {m : Value} (hv : vload i cs off = some v) (h : BoxR G w u cs m) : ∃ n, (Instr.loadAt t (.pointer (some ⟨G.bl u, off, none⟩))).run P w = .ok n w ∧ DR G.pd w v n := by
 obtain ⟨ms, ty, rfl, hh, ho, hn, hl, hc, h1⟩ := h
 unfold vload at hv
 split at hv
 ·rename_i c hcc
  cases hv
  obtain ⟨rfl, hlc⟩ := cellsAt_some hcc
  have hlen : ((cs.drop off).take i.sz).length = ((ms.drop off).take i.sz).length := by simp [hl]
  refine ⟨ldv i ((ms.drop off).take i.sz), run_load' hti hi (by rw [← hlen]; exact hlc) (fun k u hu => ?_), mkv_rel hti hi (.of (by simp [hl]) fun k a b ha hb => ?_) hlc fun u hu => h1 u (List.mem_of_mem_drop (List.mem_of_mem_take hu))⟩
  ·rw [box_cell hh]; exact drop_take_get hu
  ·rw [List.getElem?_map] at ha
   obtain ⟨x, hx, rfl⟩ := Option.map_eq_some_iff.1 ha
   exact (hc (off + k) x b (drop_take_get hx) (drop_take_get hb)).data
 ·cases hv
theorem Sim.away (hs : Sim NG GW io w0 pd0 G env a w) {t : Nat} {e : TypeId} {sz : Nat} {xs : List VV} (ht : get env t = .ow e sz xs) (p : Nat × Nat) :
  Sim NG GW io w0 pd0 (rehome G (a.eval (.tmp t)) p) (env.set t (.sl xs)) a w ∧ OwnR (rehome G (a.eval (.tmp t)) p) w p e sz xs (a.eval (.tmp t)) := by
 have h : OwnR G w (t, 0) e sz xs (a.eval (.tmp t)) := by have := get_slot hs t; rw [ht] at this; exact this
 refine ⟨hs.evo h.evo (by simp) ?_ hs.fr hs.gw (h.owns hs) (h.ownsp hs) hs.dv hs.old, h.home⟩
 intro u v m hv hm
 by_cases hu : t = u
 ·subst hu
  rw [List.getElem?_set, if_pos rfl] at hv
  split at hv
  ·cases hv
   have hq : a.eval (.tmp t) = m := by
    obtain ⟨hlt, rfl⟩ := Array.getElem?_eq_some_iff.1 hm
    simp [Act.eval, hlt]
   rw [← hq]
   exact .inr (VR.slot (VR.of_dr (OwnR.dr (h.home (p' := p)))) _)
  ·cases hv
 ·rw [List.getElem?_set, if_neg hu] at hv
  exact .inl ⟨v, hv, rfl, fun e => hu e.symm, id, fun _ h => h.elim⟩
theorem Sim.write (hs : Sim NG GW io w0 pd0 G env a w) (gws : ∀ w w', GW w → Below NG w w' → GW w') {t : Nat} {ms ms' : List Value} {ty : TypeId} (hh : w.heap[G.bl t]? = some (.cells ms.toArray ty (0, 0))) (ho : G.own (G.bl t) = some (t, 0)) (hn : ∀ k, ¬ G.pd (G.bl t) k) (b : VV)
    (hb : ∀ w' : World, w'.heap[G.bl t]? = some (.cells ms'.toArray ty (0, 0)) → (∀ v m, DR G.pd w v m → DR G.pd w' v m) → (∀ p v m, p ≠ (t, 0) → CellR G w p v m → CellR G w' p v m) → SlotR G w' t b (a.eval (.tmp t))) :
    Sim NG GW io w0 pd0 G (env.set t b) a (w.setRow (G.bl t) ms'.toArray) := by
  have hnv : ∀ k, ¬ G.pv (G.bl t) k := fun k hk => hn k (hs.ownp _ k (by rw [ho]; simp) hk)
  have hcell : ∀ x k, x ≠ G.bl t → (w.setRow (G.bl t) ms'.toArray).cell? ⟨x, k, none⟩ = w.cell? ⟨x, k, none⟩ := fun x k hx => World.cell?_of_block (setRow_other w _ x _ hx)
  have hd : ∀ g k m, G.pd g k → w.cell? ⟨g, k, none⟩ = some m → G.pd g k ∧ (w.setRow (G.bl t) ms'.toArray).cell? ⟨g, k, none⟩ = some m := fun g k m h1 h2 => ⟨h1, by rw [hcell g k (fun e => hn k (e ▸ h1))]; exact h2⟩
  have E : Evo G w G (w.setRow (G.bl t) ms'.toArray) (fun u => u = t) (fun _ => False) := by
    refine ⟨hd, fun g k m h1 h2 => ⟨h1, by rw [hcell g k (fun e => hnv k (e ▸ h1))]; exact h2⟩, ?_, fun _ _ => rfl, rfl⟩
    intro g u j o h1 h2 h3
    have hne : g ≠ G.bl t := fun e => h3 (by rw [e, ho] at h1; exact (congrArg Prod.fst (Option.some.inj h1)).symm)
    exact ⟨(setRow_other w _ g _ hne).trans h2, h1, fun _ => Iff.rfl⟩
  obtain ⟨hlt, hge⟩ := hs.own _ _ ho
  refine hs.evo E (by simp) ?_ ?_ ?_ ?_ hs.ownp hs.dv hs.old
  · intro u v m hv hm
    by_cases hu : t = u
    · subst hu
      rw [List.getElem?_set, if_pos rfl] at hv
      split at hv
      · cases hv
        have hq : a.eval (.tmp t) = m := by
          obtain ⟨hlt, rfl⟩ := Array.getElem?_eq_some_iff.1 hm
          simp [Act.eval, hlt]
        rw [← hq]
        refine .inr (hb _ (setRow_heap w _ _ _ _ _ hh) (fun v m h => h.keep hd) fun p v m hp h => ?_)
        cases v <;> first
          | exact DR.keep hd h | exact h
          | (obtain ⟨ms, h2, hr, hz, h1, hl, hg⟩ := h
             refine ⟨ms, own_moves h2 (fun g o hgb hh => ?_), hr.keep hd, hz, h1, hl, hg⟩
             have hne : g ≠ G.bl t := fun e => hp (by have := (hg g hgb).1; rw [e, ho] at this; exact (Option.some.inj this).symm)
             exact (setRow_other w _ g _ hne).trans hh)
      · cases hv
    · rw [List.getElem?_set, if_neg hu] at hv
      exact .inl ⟨v, hv, rfl, fun e => hu e.symm, id, fun _ h => h.elim⟩
  · refine ⟨hs.fr.os, hs.fr.tape, hs.fr.output, by rw [setRow_size]; exact hs.fr.size, fun k h1 h2 => ?_⟩
    rw [setRow_other w _ k _ (fun e => by
      rw [← e] at hge
      rcases hge with h | h
      · omega
      · exact h2 h)]
    exact hs.fr.block k h1 h2
  · refine gws _ _ hs.gw ⟨rfl, rfl, rfl, by rw [setRow_size]; exact Nat.le_refl _, fun k hk => setRow_other w _ k _ (fun e => ?_)⟩
    rw [← e] at hge
    rcases hge with h | h
    · have := hs.ng; omega
    · have := hs.ngio _ h; omega
  · intro g p hp; rw [setRow_size]; exact hs.own g p hp
theorem run_store' (hti : TIok P ti) {t : TypeId} {i : TI} (hi : ti t = some i) {g off : Nat} {ms : List Value} {ty : TypeId} {v : Value} (hh : w.heap[g]? = some (.cells ms.toArray ty (0, 0))) (hl : v.cells.toList.length = i.sz) (hf : off + i.sz ≤ ms.length) (h1 : ∀ u ∈ v.cells.toList, u.oneCell' = true) :
  (Instr.storeAt t (.pointer (some ⟨g, off, none⟩)) v).run P w = .ok () (w.setRow g (setCells ms off v.cells.toList).toArray) := by
 have := run_storeCells_at (P := P) g off ty v.cells.toList 0 ms.toArray w hh (by simp at hl ⊢; omega) h1
 rw [setCells_eq _ _ _ (by omega)]
 unfold Instr.storeAt Instr.sureAddr storeVar
 have hl' : v.cells.size = i.sz := by simpa using hl
 simp only [Nat.add_zero] at this
 simp [run_sizeOf' hti hi, hl']
 simpa [hl'] using this
end
section
variable {P : Program} {NG : Nat} {GW : World → Prop} {io : List Nat} {w0 : World} {pd0 : Nat → Nat → Prop} {G G' : Gh} {env : Env} {a : Act} {w w' : World} {ti : TypeId → Option TI}
theorem DRs.drew {pd : Nat → Nat → Prop} {vs : List VV} {ms : List Value} (h : DRs pd w vs ms) : DRs pd w.drew vs ms := DRs.keep (w := w) (w' := w.drew) (pd' := pd) (fun _ _ _ h1 h2 => ⟨h1, h2⟩) h
theorem Sim.drew (hs : Sim NG GW io w0 pd0 G env a w) (gws : ∀ w w', GW w → Below NG w w' → GW w') : Sim NG GW io w0 pd0 G env a w.drew := by
 have E : Evo G w G w.drew (fun _ => False) (fun _ => False) := ⟨fun _ _ _ h1 h2 => ⟨h1, h2⟩, fun _ _ _ h1 h2 => ⟨h1, h2⟩, fun _ _ _ _ h1 h2 _ => ⟨h2, h1, fun _ => Iff.rfl⟩, fun _ _ => rfl, rfl⟩
 refine hs.evo E rfl (fun t v m hv hm => .inl ⟨v, hv, rfl, id, id, fun _ h => h.elim⟩) ⟨hs.fr.os, hs.fr.tape, hs.fr.output, hs.fr.size, hs.fr.block⟩ (gws _ _ hs.gw ((Below.refl NG w).drew)) hs.own hs.ownp hs.dv hs.old
theorem OwnR.nil {p : Nat × Nat} {e : TypeId} {sz : Nat} : OwnR G w p e sz [] (.slice none 0 0) :=
 ⟨[], World.ownsRow_nil w _ e sz, .nil, fun x h => (by cases h), fun u h => (by cases h), Nat.zero_le _, fun g h => (by simp [Value.ownBlock] at h)⟩
theorem Sim.row (hs : Sim NG GW io w0 pd0 G env a w) (gws : ∀ w w', GW w → Below NG w w' → GW w') (p : Nat × Nat) {e : TypeId} {sz cap : Nat} {xs : List VV} {ms : List Value} {cur : Array Value}
  (hcs : cur.size = cap * sz) (htk : cur.toList.take (xs.length * sz) = ms) (hl : ms.length = xs.length * sz) (hc : xs.length ≤ cap) (hm : cap ≤ maxLen) (hr : DRs G.pd w (xs.flatMap VV.cells) ms) (hz : ∀ x ∈ xs, x.cells.length = sz) (h1 : ∀ u ∈ ms, u.oneCell' = true) :
  ∃ G', Sim NG GW io w0 pd0 G' env a (w.alloc (.cells cur e)) ∧ OwnR G' (w.alloc (.cells cur e)) p e sz xs (.slice (some ⟨w.heap.size, 0, none⟩) xs.length cap) := by
 let g := w.heap.size
 let G' : Gh := ⟨fun x k => if x = g then k < xs.length * sz else G.pd x k, fun x k => if x = g then k < xs.length * sz else G.pv x k, G.bl, fun x => if x = g then some p else G.own x, G.B⟩
 have hlt : ∀ x k m, w.cell? ⟨x, k, none⟩ = some m → x ≠ g := fun x k m h e => by have := World.block_lt_of_cell? w _ h; simp only [g] at e; simp at this; omega
 have hkeep : ∀ x k m, w.cell? ⟨x, k, none⟩ = some m → (w.alloc (.cells cur e)).cell? ⟨x, k, none⟩ = some m := fun x k m h => by
  rw [World.cell?_of_block (hao_ w _ x (by have := World.block_lt_of_cell? w _ h; simpa using this))]; exact h
 have hd : ∀ x k m, G.pd x k → w.cell? ⟨x, k, none⟩ = some m → G'.pd x k ∧ (w.alloc (.cells cur e)).cell? ⟨x, k, none⟩ = some m := fun x k m h1 h2 => ⟨by simp only [G', if_neg (hlt x k m h2)]; exact h1, hkeep x k m h2⟩
 have E : Evo G w G' (w.alloc (.cells cur e)) (fun _ => False) (fun _ => False) := by
  refine ⟨hd, fun x k m h1 h2 => ⟨by simp only [G', if_neg (hlt x k m h2)]; exact h1, hkeep x k m h2⟩, ?_, fun t ht => rfl, rfl⟩
  intro x t j o h1 h2 _
  have hx : x < w.heap.size := (Array.getElem?_eq_some_iff.1 h2).1
  have hne : x ≠ g := by simp only [g]; omega
  exact ⟨(hao_ w _ x hx).trans h2, by simp only [G', if_neg hne]; exact h1, fun k => by simp only [G', if_neg hne]⟩
 refine ⟨G', hs.evo E rfl (fun t v m hv hm => .inl ⟨v, hv, rfl, id, id, fun _ h => h.elim⟩) (hs.fr.alloc (Nat.le_refl _) _) (gws _ _ hs.gw ((Below.refl _ w).alloc (by have := hs.ng; have := hs.fr.size; omega) _)) ?_ ?_ ?_ (fun x k h1 h2 => hs.old x k h1 (by
  simp only [G'] at h2
  rw [if_neg (by simp only [g]; have := hs.fr.size; omega)] at h2; exact h2)), ?_⟩
 ·intro x q hx
  simp only [G'] at hx
  split at hx
  ·rename_i e; subst e; exact ⟨by simp [g], .inl (by simp only [g]; exact hs.fr.size)⟩
  ·have := hs.own x q hx; exact ⟨by simp; omega, this.2⟩
 ·intro x k hx hk
  simp only [G'] at hx hk ⊢
  split
  ·rename_i e; rw [if_pos e] at hk; exact hk
  ·rename_i e; rw [if_neg e] at hk hx; exact hs.ownp x k hx hk
 ·intro x k hk
  simp only [G'] at hk ⊢
  split
  ·rename_i e; rw [if_pos e] at hk; exact hk
  ·rename_i e; rw [if_neg e] at hk; exact hs.dv x k hk
 ·refine ⟨ms, ⟨hl, .inr ⟨g, cap, cur, rfl, (by show G.B ≤ _; rw [hs.B]; exact hs.fr.size), heap_alloc_new w _, hc, hm, hcs, htk⟩⟩, hr.keep hd, hz, h1, Nat.le_trans hc hm, fun x hx => ?_⟩
  simp [Value.ownBlock] at hx
  subst hx
  exact ⟨if_pos rfl, fun k => by simp only [G', if_pos]; simp [g]⟩
theorem Sim.grow (hs : Sim NG GW io w0 pd0 G env a w) (gws : ∀ w w', GW w → Below NG w w' → GW w') {u : Nat} (p : Nat × Nat) {e : TypeId} {sz g cap : Nat} {xs ys : List VV} {ms ns : List Value} {cur : Array Value}
  (hu : ∃ ee zz, get env u = .ow ee zz xs ∨ (get env u = .nl ∧ xs = [])) (ha : OwnR G w (u, 0) e sz xs (.slice (some ⟨g, 0, none⟩) xs.length cap)) (hev : a.eval (.tmp u) = .slice (some ⟨g, 0, none⟩) xs.length cap)
  (hh : w.heap[g]? = some (.cells cur e (0, 0))) (hcs : cur.size = cap * sz) (htk : cur.toList.take (xs.length * sz) = ms) (hl : ms.length = xs.length * sz) (hln : ns.length = ys.length * sz)
  (hroom : xs.length + ys.length ≤ cap) (hm : cap ≤ maxLen) (hr : DRs G.pd w (ys.flatMap VV.cells) ns) (hz : ∀ x ∈ ys, x.cells.length = sz) (h1 : ∀ u ∈ ns, u.oneCell' = true) :
  ∃ G', Sim NG GW io w0 pd0 G' (env.set u (.sl xs)) a (w.setRow g (cur.toList.take (xs.length * sz) ++ ns ++ cur.toList.drop (xs.length * sz + ns.length)).toArray) ∧ OwnR G' (w.setRow g (cur.toList.take (xs.length * sz) ++ ns ++ cur.toList.drop (xs.length * sz + ns.length)).toArray) p e sz (xs ++ ys) (.slice (some ⟨g, 0, none⟩) (xs.length + ys.length) cap) := by
 obtain ⟨ms', ho, hr0, hz0, h10, hl0, hg0⟩ := ha
 have hog := hg0 g rfl
 have hms : ms' = ms := by
  rcases ho.2 with ⟨h, _⟩ | ⟨g', cap', cur', he, _, hh', _, _, _, ht'⟩
  ·cases h
  ·cases he
   rw [hh] at hh'
   cases hh'
   exact ht'.symm.trans htk
 subst hms
 let W := w.setRow g (cur.toList.take (xs.length * sz) ++ ns ++ cur.toList.drop (xs.length * sz + ns.length)).toArray
 let G' : Gh := ⟨fun x k => if x = g then k < (xs.length + ys.length) * sz else G.pd x k, fun x k => if x = g then k < (xs.length + ys.length) * sz else G.pv x k, G.bl, fun x => if x = g then some p else G.own x, G.B⟩
 have hmul : xs.length * sz ≤ (xs.length + ys.length) * sz := Nat.mul_le_mul_right _ (Nat.le_add_right _ _)
 have hW : W.heap[g]? = some (.cells (cur.toList.take (xs.length * sz) ++ ns ++ cur.toList.drop (xs.length * sz + ns.length)).toArray e (0, 0)) := setRow_heap w g _ _ _ _ hh
 have hfit : xs.length * sz + ns.length ≤ cur.toList.length := by
  rw [hln, ← Nat.add_mul]; simp only [Array.length_toList, hcs]; exact Nat.mul_le_mul_right _ hroom
 have hcell : ∀ x k m, (x = g → k < xs.length * sz) → w.cell? ⟨x, k, none⟩ = some m → W.cell? ⟨x, k, none⟩ = some m := by
  intro x k m hk hc
  by_cases hx : x = g
  ·subst hx
   rw [box_cell hW]
   rw [cell_of_row w x k cur e (0, 0) hh] at hc
   have hk' := hk rfl
   rw [List.append_assoc, List.getElem?_append_left (by simp at hfit ⊢; omega), List.getElem?_take, if_pos hk']
   simpa using hc
  ·rw [World.cell?_of_block (setRow_other w g x _ hx)]; exact hc
 have hd : ∀ x k m, G.pd x k → w.cell? ⟨x, k, none⟩ = some m → G'.pd x k ∧ W.cell? ⟨x, k, none⟩ = some m := by
  intro x k m h2 h3
  refine ⟨?_, hcell x k m (fun e => (hog.2 k).1 (e ▸ h2)) h3⟩
  simp only [G']
  split
  ·rename_i e; have := (hog.2 k).1 (e ▸ h2); omega
  ·exact h2
 have E : Evo G w G' W (fun t => t = u) (fun _ => False) := by
  refine ⟨hd, ?_, ?_, fun t ht => rfl, rfl⟩
  ·intro x k m h2 h3
   have hp : x = g → k < xs.length * sz := fun e => (hog.2 k).1 (hs.ownp g k (by rw [hog.1]; simp) (e ▸ h2))
   refine ⟨?_, hcell x k m hp h3⟩
   simp only [G']
   split
   ·rename_i e; have := hp e; omega
   ·exact h2
  ·intro x t j o h2 h3 h4
   have hne : x ≠ g := fun e => h4 (by rw [e, hog.1] at h2; exact (congrArg Prod.fst (Option.some.inj h2)).symm)
   exact ⟨(setRow_other w g x _ hne).trans h3, by simp only [G', if_neg hne]; exact h2, fun k => by simp only [G', if_neg hne]⟩
 obtain ⟨hgl, hge⟩ := hs.own g _ hog.1
 have hgB : G.B ≤ g := (ho.lt g rfl).1
 refine ⟨G', hs.evo E (by simp) ?_ ?_ ?_ ?_ ?_ ?_ (fun x k h1 h2 => hs.old x k h1 (by
  simp only [G'] at h2
  rw [if_neg (by rw [hs.B] at hgB; omega)] at h2; exact h2)), ?_⟩
 ·intro t v m hv hm
  by_cases htu : u = t
  ·subst htu
   rw [List.getElem?_set, if_pos rfl] at hv
   split at hv
   ·cases hv
    have hq : a.eval (.tmp u) = m := by
     obtain ⟨hlt, rfl⟩ := Array.getElem?_eq_some_iff.1 hm
     simp [Act.eval, hlt]
    rw [← hq, hev]
    exact .inr (VR.slot (VR.of_dr ((OwnR.dr (p := (u, 0)) ⟨ms', ho, hr0, hz0, h10, hl0, hg0⟩).keep hd)) _)
   ·cases hv
  ·rw [List.getElem?_set, if_neg htu] at hv
   exact .inl ⟨v, hv, rfl, fun e => htu e.symm, id, fun _ h => h.elim⟩
 ·refine ⟨hs.fr.os, hs.fr.tape, hs.fr.output, by rw [setRow_size]; exact hs.fr.size, fun k h1 h2 => ?_⟩
  rw [setRow_other w _ k _ (fun e => by
   rw [← e] at hge
   rcases hge with h | h
   ·omega
   ·exact h2 h)]
  exact hs.fr.block k h1 h2
 ·refine gws _ _ hs.gw ⟨rfl, rfl, rfl, by rw [setRow_size]; exact Nat.le_refl _, fun k hk => setRow_other w _ k _ (fun e => ?_)⟩
  rw [← e] at hge
  rcases hge with h | h
  ·have := hs.ng; omega
  ·have := hs.ngio _ h; omega
 ·intro x q hx
  simp only [G'] at hx
  rw [setRow_size]
  split at hx
  ·rename_i e; subst e; exact ⟨hgl, hge⟩
  ·exact hs.own x q hx
 ·intro x k hx hk
  simp only [G'] at hx hk ⊢
  split
  ·rename_i e; rw [if_pos e] at hk; exact hk
  ·rename_i e; rw [if_neg e] at hk hx; exact hs.ownp x k hx hk
 ·intro x k hk
  simp only [G'] at hk ⊢
  split
  ·rename_i e; rw [if_pos e] at hk; exact hk
  ·rename_i e; rw [if_neg e] at hk; exact hs.dv x k hk
 ·refine ⟨ms' ++ ns, ⟨by rw [List.length_append, hl, hln, List.length_append, Nat.add_mul], .inr ⟨g, cap, _, by rw [List.length_append], hgB, hW, by rw [List.length_append]; exact hroom, hm, ?_, ?_⟩⟩, ?_, ?_, ?_, ?_, ?_⟩
  ·simp only [List.size_toArray, List.length_append, List.length_take, List.length_drop, Array.length_toList] at hfit ⊢
   omega
  ·rw [List.length_append, Nat.add_mul, ← hln]
   simp only
   rw [htk, ← hl, ← List.length_append]
   exact List.take_left
  ·rw [List.flatMap_append]; exact (hr0.keep hd).app (hr.keep hd)
  ·intro x hx
   rcases List.mem_append.1 hx with hx | hx
   ·exact hz0 x hx
   ·exact hz x hx
  ·intro v hv
   rcases List.mem_append.1 hv with hv | hv
   ·exact h10 v hv
   ·exact h1 v hv
  ·rw [List.length_append]; omega
  ·intro x hx
   simp [Value.ownBlock] at hx
   subst hx
   exact ⟨if_pos rfl, fun k => by simp only [G', if_pos, List.length_append]⟩
theorem append_run (hti : TIok P ti) (hs : Sim NG GW io w0 pd0 G env a w) (gws : ∀ w w', GW w → Below NG w w' → GW w') {t ty e : TypeId} {i ie : TI} (hi : ti t = some i) (hk : i.k = .slice e) (hie : ti e = some ie) (h0 : 0 < ie.sz) (hb0 : 0 < ie.bytes)
    {u : Nat} (p : Nat × Nat) {xs ys : List VV} {my : Value} (hu : get env u = .ow e ie.sz xs ∨ (get env u = .nl ∧ xs = [])) (hy : DR G.pd w (.sl ys) my) (hz : ∀ x ∈ ys, x.cells.length = ie.sz) (hb : (xs.length + ys.length) * ie.bytes ≤ 140737488355328) :
    ∃ G' v' w', (Builtin.append_ #[t, t] ty #[a.eval (.tmp u), my]).run P w = .ok v' w' ∧ Sim NG GW io w0 pd0 G' (env.set u (.sl xs)) a w' ∧ OwnR G' w' p e ie.sz (xs ++ ys) v' := by
  have hut := hti.kind t i hi
  rw [hk] at hut
  simp only at hut
  obtain ⟨inf, z, hinf, hzz, hzc, hsz, hby, hzl, hz1, _⟩ := hti.info e ie hie
  have hcap : xs.length + ys.length ≤ 140737488355328 := Nat.le_trans (Nat.le_mul_of_pos_right _ hb0) hb
  have hO : OwnR G w (u, 0) e ie.sz xs (a.eval (.tmp u)) := by
    have := get_slot hs u
    rcases hu with hu | ⟨hu, rfl⟩
    · rw [hu] at this; exact this
    · rw [hu] at this
      have h : a.eval (.tmp u) = .slice none 0 0 := this
      rw [h]; exact OwnR.nil
  have hset : Sim NG GW io w0 pd0 G (env.set u (.sl xs)) a w := by
    have hp := hs.put (some u) (v := .sl xs) (m := a.eval (.tmp u)) (fun d hd => by cases hd; exact VR.slot (VR.of_dr hO.dr) _)
    have ha : a.put (some u) (a.eval (.tmp u)) = a := by
      simp only [Act.put, Act.eval]
      congr 1
      by_cases hlt : u < a.tmps.size
      · refine Array.ext (by simp) fun i h1 h2 => ?_
        rw [Array.getElem_setIfInBounds (by simpa using h1)]
        split
        · rename_i e; subst e; simp [hlt]
        · rfl
      · simp [Array.setIfInBounds, hlt]
    rw [ha] at hp
    exact hp
  have hsrc : (∃ A c, my = .slice A 0 c ∧ ys = []) ∨ ∃ g off c ns, my = .slice (some ⟨g, off, none⟩) ys.length c ∧ DRs G.pd w (ys.flatMap VV.cells) ns ∧ (∀ v ∈ ns, v.oneCell' = true) ∧ ∀ (k : Nat) m, ns[k]? = some m → w.cell? ⟨g, off + k, none⟩ = some m := by
    cases hy with
    | sl0 A c => exact .inl ⟨A, c, rfl, rfl⟩
    | sl _ g off c sz ns hc hm hz' hr h1 hw => exact .inr ⟨g, off, c, ns, rfl, hr, h1, fun k m h => (hw k m h).1⟩
  obtain ⟨ms, ho, hr, hzx, h1, hl, hg⟩ := hO
  rcases hsrc with ⟨A, c, rfl, rfl⟩ | ⟨g, off, c, ns, rfl, hrn, h1n, hcn⟩
  ·
    refine ⟨rehome G (a.eval (.tmp u)) p, a.eval (.tmp u), w, ?_, ?_, ?_⟩
    · have hfc : (Builtin.firstCells inf.size 0 (.slice A 0 c)).run P w = .ok #[] w := by
        cases A <;> simp [Builtin.firstCells, loadCells, loadCellsFrom]
      rcases ho.2 with ⟨hv, hn⟩ | ⟨g, cap, cur, hv, _, hh, hnc, _⟩
      · rw [hv]
        simp [Builtin.append_, run_underlying hut, sizeOf, typeInfo, hinf, Builtin.lenOf, hfc]
      · rw [hv]
        simp [Builtin.append_, run_underlying hut, sizeOf, typeInfo, hinf, Builtin.lenOf, hfc, hnc, storeCells]
    · have h : OwnR G w (u, 0) e ie.sz xs (a.eval (.tmp u)) := ⟨ms, ho, hr, hzx, h1, hl, hg⟩
      refine hs.evo h.evo (by simp) ?_ hs.fr hs.gw (h.owns hs) (h.ownsp hs) hs.dv hs.old
      intro t' v m hv hm
      by_cases hu' : u = t'
      · subst hu'
        rw [List.getElem?_set, if_pos rfl] at hv
        split at hv
        · cases hv
          have hq : a.eval (.tmp u) = m := by
            obtain ⟨hlt, rfl⟩ := Array.getElem?_eq_some_iff.1 hm
            simp [Act.eval, hlt]
          rw [← hq]
          exact .inr (VR.slot (VR.of_dr (OwnR.dr (h.home (p' := p)))) _)
        · cases hv
      · rw [List.getElem?_set, if_neg hu'] at hv
        exact .inl ⟨v, hv, rfl, fun e => hu' e.symm, id, fun _ h => h.elim⟩
    · rw [List.append_nil]; exact OwnR.home (p := (u, 0)) ⟨ms, ho, hr, hzx, h1, hl, hg⟩
  · have hln : ns.length = ys.length * ie.sz := by rw [← hrn.length, flat_len hz]
    have hcn' : ∀ j v, ns[j]? = some v → w.cell? ((⟨g, off, none⟩ : Addr).add j) = some v := fun j v h => by rw [Addr.add_lit]; exact hcn j v h
    have hzs : z.cells.size = ie.sz := by have : z.cells.toList.length = ie.zero.length := by rw [hzc]
                                          simp at this; omega
    rcases ho.2 with ⟨hv, hn⟩ | ⟨gx, cap, cur, hv, _, hh, hnc, hcm, hcs, htk⟩
    ·
      obtain rfl : xs = [] := List.eq_nil_of_length_eq_zero hn
      by_cases hys : ys.length = 0
      · obtain rfl : ys = [] := List.eq_nil_of_length_eq_zero hys
        refine ⟨G, .slice none 0 0, w, ?_, hset, OwnR.nil⟩
        rw [hv]
        have hfc : (Builtin.firstCells inf.size 0 (.slice (some ⟨g, off, none⟩) 0 c)).run P w = .ok #[] w := by
          simp [Builtin.firstCells, loadCells, loadCellsFrom]
        simp [Builtin.append_, run_underlying hut, sizeOf, typeInfo, hinf, Builtin.lenOf, hfc]
      · have hrun := run_append_nil (P := P) w t ty e inf z hut hinf hzz ⟨g, off, none⟩ ys.length c ns (by rw [hln, hsz]) hcn' (by omega) (by simp at hcap; omega) (by rw [hby]; simp at hb; omega)
        have hge := grownCap_ge w ys.length 0 e
        have hgm := grownCap_le_maxLen w ys.length 0 e (by simp at hcap; simp only [maxLen]; omega)
        obtain ⟨G', hs', hO'⟩ := (hset.drew gws).row gws p (e := e) (sz := ie.sz) (cap := grownCap w ys.length 0 e) (xs := ys) (ms := ns) (cur := ns.toArray ++ Builtin.zeroCells z.cells (grownCap w ys.length 0 e - ys.length))
          (by simp only [Array.size_append, List.size_toArray, size_zeroCells, hzs, hln, ← Nat.add_mul]; congr 1; omega) (by rw [← hln]; simp only [Array.toList_append]; exact List.take_left) hln hge hgm (DRs.drew hrn) hz h1n
        rw [hv]
        exact ⟨G', _, _, hrun, hs', hO'⟩
    · have hown : OwnR G w (u, 0) e ie.sz xs (a.eval (.tmp u)) := ⟨ms, ho, hr, hzx, h1, hl, hg⟩
      by_cases hroom : xs.length + ys.length ≤ cap
      · have hfit : xs.length * inf.size + ns.length ≤ cur.size := by rw [hsz, hln, hcs, ← Nat.add_mul]; exact Nat.mul_le_mul_right _ hroom
        have hrun := run_append_room (P := P) w t ty e inf hut hinf gx xs.length cap cur hh ⟨g, off, none⟩ ys.length c ns (by rw [hln, hsz]) hcn' h1n hroom hfit
        rw [hv] at hown
        obtain ⟨G', hs', hO'⟩ := hs.grow gws p (u := u) (ys := ys) (ns := ns) ⟨e, ie.sz, hu⟩ hown hv hh hcs htk ho.1 hln hroom hcm hrn hz h1n
        rw [hv]
        rw [hsz] at hrun
        exact ⟨G', _, _, hrun, hs', hO'⟩
      · have holds : ∀ j v, ms[j]? = some v → w.cell? ((⟨gx, 0, none⟩ : Addr).add j) = some v := ho.cells (g := gx) (by rw [hv]; rfl)
        have hrun := run_append_grow (P := P) w t ty e inf z hut hinf hzz ⟨gx, 0, none⟩ xs.length cap ms (by rw [ho.1, hsz]) holds ⟨g, off, none⟩ ys.length c ns (by rw [hln, hsz]) hcn' (by omega) (by omega) (growslice_fits (by omega) (by rw [hby]; exact hb))
        have hge := grownCap_ge w (xs.length + ys.length) cap e
        have hgm := grownCap_le_maxLen w (xs.length + ys.length) cap e (by simp only [maxLen]; omega)
        have hlen : (ms ++ ns).length = (xs.length + ys.length) * ie.sz := by rw [List.length_append, ho.1, hln, Nat.add_mul]
        obtain ⟨G', hs', hO'⟩ := (hset.drew gws).row gws p (e := e) (sz := ie.sz) (cap := grownCap w (xs.length + ys.length) cap e) (xs := xs ++ ys) (ms := ms ++ ns) (cur := ms.toArray ++ ns.toArray ++ Builtin.zeroCells z.cells (grownCap w (xs.length + ys.length) cap e - (xs.length + ys.length)))
          (by simp only [Array.size_append, List.size_toArray, size_zeroCells, hzs, ho.1, hln, ← Nat.add_mul]; congr 1; omega) (by rw [List.length_append, ← hlen]; simp only [Array.toList_append]; exact List.take_left) (by rw [hlen, List.length_append]) (by rw [List.length_append]; exact hge) hgm
          (by rw [List.flatMap_append]; exact DRs.drew (hr.app hrn))
          (fun x hx => by rcases List.mem_append.1 hx with hx | hx <;> first | exact hzx x hx | exact hz x hx)
          (fun v hv => by rcases List.mem_append.1 hv with hv | hv <;> first | exact h1 v hv | exact h1n v hv)
        rw [hv]
        rw [List.length_append] at hO'
        exact ⟨G', _, _, hrun, hs', hO'⟩
end
section
variable {P : Program} {NG : Nat} {GW : World → Prop} {io : List Nat} {w0 : World} {pd0 : Nat → Nat → Prop} {G G' : Gh} {env : Env} {a : Act} {w w' : World}
variable {R : Type} {K : Env → Option R} {r : R} {next : Act → World → Prop} {Q : Exit → Act → World → Prop} {o : Oper} {C : Cx} {ops : List Oper} {dr : Option (List Nat)}
theorem VR.sl_dr {xs : List VV} {m : Value} (h : VR G w (.sl xs) m) : DR G.pd w (.sl xs) m := h
theorem VR.tu_dr {xs : List VV} {m : Value} (h : VR G w (.tu xs) m) : DR G.pd w (.tu xs) m := h
theorem VR.pt_eq {t o : Nat} {m : Value} (h : VR G w (.pt t o) m) : m = .pointer (some ⟨G.bl t, o, none⟩) := h
theorem VR.vw_v {cs : List VV} {m : Value} (h : VR G w (.vw cs) m) : ViewR G w cs m := h
theorem VR.cells {v : VV} {m : Value} (h : VR G w v m) (hok : v.cells.all cellOk = true) : DRs G.pd w v.cells m.cells.toList ∧ ∀ u ∈ m.cells.toList, u.oneCell' = true := by
 cases v <;> first
  | exact DR.cells h hok | exact h.elim | (simp [VV.cells, cellOk] at hok; done)
theorem binop_sound {op : BinOp} {xt yt : TypeId} {x y : Operand} {b tb : Bool} {v : Value} (hb : b = true) (hop : o.op = .binOp op xt x y yt) (hs : Sim NG GW io w0 pd0 G env a w) (hv : vbin tb op (rdv env x) (rdv env y) = some (b, v)) (hbool : tb = true → P.underlying xt = some .bool) :
  (execOp a.eval o).run P w = .ok (.value v) w := by
 have hx := rdv_rel hs x
 have hy := rdv_rel hs y
 generalize rdv env x = vx at *
 generalize rdv env y = vy at *
 unfold vbin at hv
 split at hv
 ·rename_i k n k' n'
  have ex := hx.sv
  have ey := hy.sv
  have hk : op = .shr ∨ k = k' := by
   split at hv
   ·right; assumption
   ·split at hv
    ·left; rfl
    ·cases hv
  have hv' : vint op k n n' = some (b, v) := by
   split at hv
   ·exact hv
   ·split at hv
    ·exact hv
    ·cases hv
  have := vint_run (P := P) (w := w) hv' hb xt k' hk
  unfold execOp
  rw [hop]
  simp only [ex, ey]
  have hg : (eqGuard op xt x y (.int k n) (.int k' n')).run P w = .ok () w := by
   unfold eqGuard
   cases op <;> simp
  simp [hg, this]
 ·rename_i s s'
  have ex := hx.sv
  have ey := hy.sv
  have := vstr_run (P := P) (w := w) hv hb xt
  unfold execOp
  rw [hop]
  simp only [ex, ey]
  have hg : (eqGuard op xt x y (.string s) (.string s')).run P w = .ok () w := by
   unfold eqGuard
   cases op <;> simp
  simp [hg, this]
 ·rename_i p q
  have ex := hx.sv
  have ey := hy.sv
  unfold execOp
  rw [hop]
  simp only [ex, ey]
  split at hv
  ·cases hv
   have hu := hbool rfl
   simp [eqGuard, run_eql_bool w xt p q hu]
  ·cases hv
   have hu := hbool rfl
   simp [eqGuard, run_neq_bool w xt p q hu]
  ·cases hv
 ·cases hv
end
end Go.Proofs.YtieohddolkeegaaGreatDoor.VI

end
