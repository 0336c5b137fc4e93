/- Part 1 of a proof: an evaluator of the program, proved sound, and what it answers. -/
import Derived.Calls
import Derived.KernelRfl
import Derived.Laws.BytesArg
import Derived.Laws.AppendOwn
import Derived.Laws.CopyRow
import Derived.Laws.Cells
import Derived.Laws.Sem
import Derived.Laws.StructEq
import Derived.Laws.Strings
import Derived.Laws.Slices
set_option linter.all false
namespace Go.Gn
open Go
inductive D where
 | int (k : IntKind) (n : Int)
 | bool (b : Bool)
 | str (s : ByteArray)
 | sl (xs : List (List D))
 | top
 deriving Inhabited
inductive Md where
 | br | sh
 deriving DecidableEq, Inhabited
inductive AV where
 | int (k : IntKind) (n : Int)
 | bool (b : Bool)
 | str (s : ByteArray)
 | sl (m : Md) (xs : List (List D))
 | nils
 | ep (m : Md) (cs : List D) (off : Nat)
 | ptr (o off : Nat)
 | rp (o j c : Nat)
 | nilp
 | hw (o : Nat)
 | hs (o lo len : Nat)
 | sub (o j len : Nat)
 | subp (o j i : Nat)
 | fn (f : Nat) (caps : List AV)
 | agg (cs : List AV)
 | tup (vs : List AV)
 | un
 | top
 deriving Inhabited
inductive Obj where
 | box (cs : List AV)
 | row (sz k c0 : Nat) (xs : List (List D))
 | frz (sz : Nat) (xs : List (List D))
 | dead
 deriving Inhabited
inductive X where
 | t (n : Nat)
 | c (v : AV)
 deriving Inhabited
inductive I where
 | mv (x : X)
 | pick (c a b : X)
 | bin (op : BinOp) (x y : X)
 | eqa (neg : Bool) (ks : List Nat) (x y : X)
 | beq (neg : Bool) (x y : X)
 | not (x : X)
 | neg (x : X)
 | conv (k : IntKind) (x : X)
 | cstr (x : X)
 | b2s (x : X)
 | alloc (zs : List AV)
 | box (x : X)
 | build (zs : List AV) (parts : List (Nat × Nat × X))
 | mks (sz len : Nat) (zs : List AV) (parts : List (Nat × Nat × X))
 | mksl (sz bytes : Nat) (zs : List AV) (l c : X)
 | load (agg : Bool) (n : Nat) (a : X)
 | store (n : Nat) (a v : X)
 | nilc (x : X)
 | fadr (off : Nat) (x : X)
 | iadr (sz : Nat) (x i : X)
 | idx (x i : X)
 | sstr (x : X) (lo hi : Option X)
 | ssl (sz : Nat) (x : X) (lo hi : Option X)
 | ext (x : X) (i : Nat)
 | mkfn (f : Nat) (caps : List X)
 | call (f : Nat) (args : List X)
 | callv (x : X) (args : List X)
 | len (x : X)
 | lens (x : X)
 | app (sz bytes : Nat) (zs : List AV) (s x : X)
 | copy (sz : Nat) (d s : X)
 | min (xs : List X)
 | max (xs : List X)
 | clear (sz : Nat) (zs : List AV) (x : X)
 deriving Inhabited
structure O where
 dst : Option Nat
 ins : I
 guard : Option (Nat × Bool)
 deps : List Nat
 deriving Inhabited
inductive C where
 | skip
 | reg (draw : Bool) (prs : List (Nat × Nat)) (frs : List Nat) (ops : List O)
 | seq (a b : C)
 | cond (c : X) (a b : C)
 | blk (id : Nat) (c : C)
 | loop (c : C)
 | exit (id : Nat)
 | ret
 deriving Inhabited
def X.tmps : X → List Nat
 | .t n => [n]
 | .c _ => []
def oX : Option X → List X
 | some x => [x]
 | none => []
def psX (ps : List (Nat × Nat × X)) : List X := ps.map fun p => p.2.2
def I.xs : I → List X
 | .mv x | .not x | .neg x | .conv _ x | .cstr x | .b2s x | .box x | .nilc x | .fadr _ x | .ext x _ | .len x | .lens x => [x]
 | .pick a b c => [a, b, c]
 | .bin _ x y | .eqa _ _ x y | .beq _ x y | .iadr _ x y | .idx x y => [x, y]
 | .alloc _ => []
 | .build _ ps | .mks _ _ _ ps => psX ps
 | .mksl _ _ _ l c => [l, c]
 | .load _ _ a => [a]
 | .store _ a v => [a, v]
 | .sstr x lo hi | .ssl _ x lo hi => x :: (oX lo ++ oX hi)
 | .mkfn _ caps => caps
 | .call _ args => args
 | .callv x args => x :: args
 | .app _ _ _ s x => [s, x]
 | .copy _ d s => [d, s]
 | .min xs | .max xs => xs
 | .clear _ _ x => [x]
def I.tmps (i : I) : List Nat := i.xs.flatMap X.tmps
def O.tmps (o : O) : List Nat := o.ins.tmps ++ (match o.guard with | some (g, _) => [g] | none => [])
def I.reads : I → Bool
 | .alloc _ | .box _ | .mks .. | .mksl .. | .store .. | .call .. | .callv .. | .app .. | .copy .. | .clear .. => false
 | _ => true
def I.looks : I → Bool
 | .b2s _ | .load .. | .iadr .. | .ssl .. | .len _ => true
 | _ => false
def I.fresh : I → Bool
 | .alloc _ => true
 | .mks _ _ _ [] => true
 | _ => false
def hasN : List Nat → Nat → Bool
 | [], _ => false
 | x :: l, n => bif Nat.beq x n then true else hasN l n
def clsOf : List O → List (List Nat) → List (List Nat)
 | [], acc => acc
 | o :: os, acc => clsOf os (acc ++ [(List.range acc.length).filter fun j => o.deps.any fun d => Nat.beq d j || hasN (acc.getD d []) j])
def isW (ops : List O) (i : Nat) : Bool := match ops[i]? with
 | some o => !o.ins.reads
 | none => false
def drawFree (ops : List O) : List Nat :=
 let cls := clsOf ops []
 (List.range ops.length).filter fun i => match ops[i]? with
  | some o => o.ins.fresh && (List.range i).any fun m => isW ops m && !hasN (cls.getD i []) m
  | none => false
def isC (frs : List Nat) (ops : List O) (i : Nat) : Bool := isW ops i && !hasN frs i
def need (cls : List (List Nat)) (ws : List Nat) (i p : Nat) : Bool :=
 ws.all (fun m => bif Nat.blt m p then !hasN (cls.getD m []) i else !hasN (cls.getD i []) m) &&
 ws.any fun m => (Nat.ble p m && Nat.blt m i) || (Nat.ble i m && Nat.blt m p)
def drawPairs (ops : List O) : List (Nat × Nat) :=
 let cls := clsOf ops []
 let n := ops.length
 let frs := drawFree ops
 let ws := (List.range n).filter (isC frs ops)
 (List.range n).flatMap fun i => match ops[i]? with
  | some o => if o.ins.looks then
    ((List.range (n + 1)).filter fun p => (Nat.beq p 0 || isC frs ops (p - 1)) && need cls ws i p).map fun p => (i, p)
   else []
  | none => []
def constAV : Value → Option AV
 | .int k n => some (.int k n)
 | .bool b => some (.bool b)
 | .string s => some (.str s)
 | .pointer none => some .nilp
 | .slice none 0 0 => some .nils
 | _ => none
def cX : Operand → Option X
 | .tmp t => some (.t t)
 | .const v => (constAV v).map .c
 | .func f => some (.c (.fn f []))
 | _ => none
def cXs (xs : Array Operand) : Option (List X) := xs.toList.mapM cX
def zs? (P : Program) (t : TypeId) : Option (List AV) := do
 let i ← P.info? t
 let z ← i.zero
 z.cells.toList.mapM constAV
def size? (P : Program) (t : TypeId) : Option Nat := (P.info? t).map (·.size)
def elem? (P : Program) (t : TypeId) : Option TypeId := match P.underlying t with | some (.slice e) => some e | _ => none
def kindOf (P : Program) (f : Field) : Option Nat :=
 if f.name = "_" then none else match P.underlying f.type with
 | some .bool => some 0
 | some (.int _) => some 1
 | some .string => some 2
 | _ => none
def kindsOf (P : Program) : List Field → Nat → Option (List Nat)
 | [], _ => some []
 | f :: fs, i => if f.offset = i then do
   let k ← kindOf P f
   let ks ← kindsOf P fs (i + 1)
   pure (k :: ks)
  else none
def cParts (place : Nat → Option (Nat × Nat)) : List (Nat × Operand) → Option (List (Nat × Nat × X))
 | [] => some []
 | (i, x) :: ps => do
  let q ← place i
  let y ← cX x
  let l ← cParts place ps
  pure ((q.1, q.2, y) :: l)
def isAggD : TypeDesc → Bool
 | .struct _ => true
 | .array _ _ => true
 | _ => false
def cI (P : Program) (op : Op) : Option I :=
 match op with
 | .move x | .assign x => do pure (.mv (← cX x))
 | .pick c a b => do pure (.pick (← cX c) (← cX a) (← cX b))
 | .alloc e => do pure (.alloc (← zs? P e))
 | .box _ x => do pure (.box (← cX x))
 | .build t parts => do
  let zs ← zs? P t
  match P.underlying t with
  | some (.struct fs) => do
   let pl ← fs.toList.mapM fun f => (P.info? f.type).map fun i => (f.offset, i.size)
   let ps ← cParts (pl.toArray[·]?) parts.toList
   pure (.build zs ps)
  | _ => none
 | .buildSlice t len parts => do
  let e ← elem? P t
  let sz ← size? P e
  if len * sz > 2 ^ 24 then none else
  let zs ← zs? P e
  if zs.length ≠ sz then none else
  let ps ← cParts (fun i => some (i * sz, sz)) parts.toList
  pure (.mks sz len zs ps)
 | .makeSlice t l c => do
  let e ← elem? P t
  let i ← P.info? e
  let zs ← zs? P e
  if zs.length ≠ i.size then none else
  pure (.mksl i.size i.bytes zs (← cX l) (← cX c))
 | .load t a => do
  let n ← size? P t
  let u ← P.underlying t
  pure (.load (isAggD u) n (← cX a))
 | .store t a v => do pure (.store (← size? P t) (← cX a) (← cX v))
 | .nilCheck x => do pure (.nilc (← cX x))
 | .fieldAddr s x j =>
  match P.underlying s with
  | some (.struct fs) => do
   let f ← fs[j]?
   let n ← size? P f.type
   if n = 0 then none else pure (.fadr f.offset (← cX x))
  | _ => none
 | .indexAddr t x i => do
  let e ← elem? P t
  pure (.iadr (← size? P e) (← cX x) (← cX i))
 | .index t x i =>
  match P.underlying t with
  | some .string => do pure (.idx (← cX x) (← cX i))
  | _ => none
 | .slice t x lo hi mx =>
  match mx with
  | some _ => none
  | none =>
   match P.underlying t with
   | some .string => do
    let lo ← lo.mapM cX
    let hi ← hi.mapM cX
    pure (.sstr (← cX x) lo hi)
   | some (.slice e) => do
    let lo ← lo.mapM cX
    let hi ← hi.mapM cX
    pure (.ssl (← size? P e) (← cX x) lo hi)
   | _ => none
 | .binOp op t x y _ =>
  match P.underlying t with
  | some (.struct fs) =>
   if !P.eqGuardType P.depth t && !P.stoodInHeld t then do
    let ks ← kindsOf P fs.toList 0
    match op with
    | .eql => do pure (.eqa false ks (← cX x) (← cX y))
    | .neq => do pure (.eqa true ks (← cX x) (← cX y))
    | _ => none
   else none
  | some (.int _) | some .string => do pure (.bin op (← cX x) (← cX y))
  | some .bool => match op with
   | .eql => do pure (.beq false (← cX x) (← cX y))
   | .neq => do pure (.beq true (← cX x) (← cX y))
   | _ => none
  | _ => none
 | .unOp .not _ x => do pure (.not (← cX x))
 | .unOp .neg _ x => do pure (.neg (← cX x))
 | .convert s d x =>
  match P.underlying s, P.underlying d with
  | some (.int _), some (.int k) => do pure (.conv k (← cX x))
  | some .string, some .string => do pure (.cstr (← cX x))
  | some (.slice e), some .string => if (P.underlying e matches some (.int .u8)) then do pure (.b2s (← cX x)) else none
  | _, _ => none
 | .makeFunc (.func f) first caps => if first.isEmpty then do pure (.mkfn f (← cXs caps)) else none
 | .extract x i => do pure (.ext (← cX x) i)
 | .call c =>
  match c.callee with
  | .value (.func f) => do pure (.call f (← cXs c.args))
  | .value x => do pure (.callv (← cX x) (← cXs c.args))
  | .builtin .len => do
   let t ← c.argTypes[0]?
   match P.underlying t, c.args.toList with
   | some .string, [x] => do pure (.lens (← cX x))
   | some (.slice _), [x] => do pure (.len (← cX x))
   | _, _ => none
  | .builtin .append => do
   let t ← c.argTypes[0]?
   let t1 ← c.argTypes[1]?
   let e ← elem? P t
   let i ← P.info? e
   match P.underlying t1, c.args.toList with
   | some (.slice _), [s, x] => do
    let zs ← zs? P e
    if zs.length ≠ i.size then none else
    pure (.app i.size i.bytes zs (← cX s) (← cX x))
   | _, _ => none
  | .builtin .copy => do
   let t ← c.argTypes[0]?
   let e ← elem? P t
   match c.args.toList with
   | [d, s] => do pure (.copy (← size? P e) (← cX d) (← cX s))
   | _ => none
  | .builtin .min => do pure (.min (← cXs c.args))
  | .builtin .max => do pure (.max (← cXs c.args))
  | .builtin .clear => do
   let t ← c.argTypes[0]?
   let e ← elem? P t
   match c.args.toList with
   | [x] => do pure (.clear (← size? P e) (← zs? P e) (← cX x))
   | _ => none
  | _ => none
 | _ => none
def cO (P : Program) (draw : Bool) (ops : Array Oper) (o : Oper) : Option O := do
 let ins ← cI P o.op
 let g ← match o.guard with
  | none => some none
  | some (j, b) => do
   let oj ← ops[j]?
   let d ← oj.dst
   pure (some (d, b))
 pure { dst := o.dst, ins, guard := g, deps := if draw then (o.after.toList.filter (Region.binds .any)).map (·.on) else [] }
def cC (P : Program) : Code → Option C
 | .skip => some .skip
 | .region _ ops draw => do
  let os ← ops.toList.mapM (cO P draw ops)
  pure (.reg draw (if draw then drawPairs os else []) (if draw then drawFree os else []) os)
 | .seq a b => do pure (.seq (← cC P a) (← cC P b))
 | .cond c a b => do pure (.cond (← cX c) (← cC P a) (← cC P b))
 | .block id c => do pure (.blk id (← cC P c))
 | .loop c => do pure (.loop (← cC P c))
 | .exit id => some (.exit id)
 | .ret => some .ret
 | _ => none
def o (d : Nat) (i : I) : O := ⟨some d, i, none, []⟩
def on (i : I) : O := ⟨none, i, none, []⟩
def od (d : Nat) (i : I) (l : List Nat) : O := ⟨some d, i, none, l⟩
def og (d : Nat) (i : I) (g : Nat) (b : Bool) : O := ⟨some d, i, some (g, b), []⟩
def odg (d : Nat) (i : I) (g : Nat) (b : Bool) (l : List Nat) : O := ⟨some d, i, some (g, b), l⟩
def k (n : Int) : X := .c (.int .i64 n)
def kb (b : Bool) : X := .c (.bool b)
end Go.Gn

namespace Go.Gn
open Go
def D.av (m : Md) : D → AV
 | .int k n => .int k n
 | .bool b => .bool b
 | .str s => .str s
 | .sl xs => .sl m xs
 | .top => .top
def AV.toD : AV → Option D
 | .int k n => some (.int k n)
 | .bool b => some (.bool b)
 | .str s => some (.str s)
 | .nils => some (.sl [])
 | .sl .sh xs => some (.sl xs)
 | _ => none
def AV.force {α : Type} (v : AV) (f : AV → α) : α := match v with
 | .int k n => f (.int k n)
 | .bool b => f (.bool b)
 | .str s => f (.str s)
 | .sl m xs => f (.sl m xs)
 | .nils => f .nils
 | .ep m cs off => f (.ep m cs off)
 | .ptr o off => f (.ptr o off)
 | .rp o j c => f (.rp o j c)
 | .nilp => f .nilp
 | .hw o => f (.hw o)
 | .hs o lo len => f (.hs o lo len)
 | .sub o j len => f (.sub o j len)
 | .subp o j i => f (.subp o j i)
 | .fn g caps => f (.fn g caps)
 | .agg cs => f (.agg cs)
 | .tup vs => f (.tup vs)
 | .un => f .un
 | .top => f .top
theorem AV.force_eq {α : Type} (v : AV) (f : AV → α) : v.force f = f v := by cases v <;> rfl
def forceL {α : Type} : List AV → (List AV → α) → α
 | [], f => f []
 | v :: vs, f => v.force fun v => forceL vs fun vs => f (v :: vs)
theorem forceL_eq {α : Type} (l : List AV) (f : List AV → α) : forceL l f = f l := by
 induction l generalizing f with
 | nil => rfl
 | cons v vs ih => simp [forceL, AV.force_eq, ih]
abbrev Ts := List (Nat × AV)
def Ts.at : Ts → Nat → AV
 | [], _ => .top
 | (i, v) :: ts, t => match Nat.beq i t with | true => v | false => Ts.at ts t
def AV.cells : AV → List AV
 | .agg cs => cs
 | v => [v]
def AV.one : AV → Bool
 | .agg _ | .tup _ | .un | .top => false
 | _ => true
def AV.okc : AV → Bool
 | .agg _ => true
 | v => v.one
def cut {α : Type} (cs : List α) (off n : Nat) : Option (List α) := if off + n ≤ cs.length then some ((cs.drop off).take n) else none
def splice {α : Type} (cs : List α) (off : Nat) (vs : List α) : List α := cs.take off ++ vs ++ cs.drop (off + vs.length)
def chunks {α : Type} (sz : Nat) : Nat → List α → List (List α)
 | 0, _ => []
 | n + 1, l => l.take sz :: chunks sz n (l.drop sz)
mutual
def AV.ids : AV → List Nat
 | .ptr o _ | .rp o _ _ | .hw o | .hs o _ _ | .sub o _ _ | .subp o _ _ => [o]
 | .fn _ caps => AV.idsL caps
 | .agg cs => AV.idsL cs
 | .tup vs => AV.idsL vs
 | _ => []
def AV.idsL : List AV → List Nat
 | [] => []
 | v :: vs => v.ids ++ AV.idsL vs
end
def Obj.ids : Obj → List Nat
 | .box cs => AV.idsL cs
 | _ => []
def reach (os : List Obj) : Nat → List Nat → List Nat → List Nat
 | 0, _, done => done
 | _ + 1, [], done => done
 | n + 1, o :: todo, done => if done.contains o then reach os n todo done else reach os n ((os.getD o .dead).ids ++ todo) (done ++ [o])
def posOf (l : List Nat) (o : Nat) (i : Nat := 0) : Option Nat :=
 match l with
 | [] => none
 | x :: l => if x == o then some i else posOf l o (i + 1)
mutual
def AV.ren (ρ : Nat → Option Nat) : AV → AV
 | .ptr o a => match ρ o with | some p => .ptr p a | none => .top
 | .rp o j c => match ρ o with | some p => .rp p j c | none => .top
 | .hw o => match ρ o with | some p => .hw p | none => .top
 | .hs o a b => match ρ o with | some p => .hs p a b | none => .top
 | .sub o a b => match ρ o with | some p => .sub p a b | none => .top
 | .subp o a b => match ρ o with | some p => .subp p a b | none => .top
 | .fn f caps => .fn f (AV.renL ρ caps)
 | .agg cs => .agg (AV.renL ρ cs)
 | .tup vs => .tup (AV.renL ρ vs)
 | v => v
def AV.renL (ρ : Nat → Option Nat) : List AV → List AV
 | [] => []
 | v :: vs => v.ren ρ :: AV.renL ρ vs
end
def Obj.ren (ρ : Nat → Option Nat) : Obj → Obj
 | .box cs => .box (AV.renL ρ cs)
 | o => o
def pickOs (ord : List Nat) (os : List Obj) : List Obj := ord.map fun o => (os.getD o .dead).ren (posOf ord)
mutual
def AV.noBr : AV → Bool
 | .sl .br _ => false
 | .ep .br _ _ => false
 | .fn _ caps => AV.noBrL caps
 | .agg cs => AV.noBrL cs
 | .tup vs => AV.noBrL vs
 | _ => true
def AV.noBrL : List AV → Bool
 | [] => true
 | v :: vs => v.noBr && AV.noBrL vs
end
def Obj.noBr : Obj → Bool
 | .box cs => AV.noBrL cs
 | _ => true
def view {α : Type} (xs : List α) (lo len : Nat) : List α := (xs.drop lo).take len
def lendD (os : List Obj) (sel : List Nat) : AV → Option D
 | .int k n => some (.int k n)
 | .bool b => some (.bool b)
 | .str s => some (.str s)
 | .sl _ xs => some (.sl xs)
 | .nils => some (.sl [])
 | .hw o => if sel.contains o then none else match os.getD o .dead with
  | .row _ _ _ xs => some (.sl xs)
  | .frz _ xs => some (.sl xs)
  | _ => none
 | .hs o lo len => if sel.contains o then none else match os.getD o .dead with
  | .row _ _ _ xs => if lo + len ≤ xs.length then some (.sl (view xs lo len)) else none
  | .frz _ xs => if lo + len ≤ xs.length then some (.sl (view xs lo len)) else none
  | _ => none
 | v => if v.one then some .top else none
def lendDs (os : List Obj) (sel : List Nat) : List AV → Option (List D)
 | [] => some []
 | v :: vs => match lendD os sel v with
  | none => none
  | some d => match lendDs os sel vs with
   | none => none
   | some ds => some (d :: ds)
mutual
def lend (os : List Obj) (sel : List Nat) : AV → Option AV
 | .int k n => some (.int k n)
 | .bool b => some (.bool b)
 | .str s => some (.str s)
 | .nilp => some .nilp
 | .un => some .un
 | .sl _ xs => some (.sl .br xs)
 | .nils => some (.sl .br [])
 | .ep _ cs off => some (.ep .br cs off)
 | .hw o => if sel.contains o then none else match os.getD o .dead with
  | .row _ _ _ xs => some (.sl .br xs)
  | .frz _ xs => some (.sl .br xs)
  | _ => none
 | .hs o lo len => if sel.contains o then none else match os.getD o .dead with
  | .row _ _ _ xs => if lo + len ≤ xs.length then some (.sl .br (view xs lo len)) else none
  | .frz _ xs => if lo + len ≤ xs.length then some (.sl .br (view xs lo len)) else none
  | .box cs => if lo = 0 ∧ cs.length / len * len = cs.length then (match lendDs os sel cs with | some ds => some (.sl .br (chunks (cs.length / len) len ds)) | none => none) else none
  | .dead => none
 | .ptr o off => if sel.contains o then none else match os.getD o .dead with
  | .box cs => match lendDs os sel cs with | some ds => some (.ep .br ds off) | none => none
  | _ => none
 | .rp o j c => if sel.contains o then none else match os.getD o .dead with
  | .row _ _ _ xs => match xs[j]? with | some el => some (.ep .br el c) | none => none
  | .frz _ xs => match xs[j]? with | some el => some (.ep .br el c) | none => none
  | _ => none
 | .sub o j len => if sel.contains o then none else match os.getD o .dead with
  | .row _ k c0 xs => match xs[j]? with
   | some el => match el[c0]? with | some (.sl ys) => if ys.length = len ∧ j < k then some (.sl .br ys) else none | _ => none
   | none => none
  | _ => none
 | .fn f caps => match lendL os sel caps with | some l => some (.fn f l) | none => none
 | .agg cs => match lendL os sel cs with | some l => some (.agg l) | none => none
 | _ => none
def lendL (os : List Obj) (sel : List Nat) : List AV → Option (List AV)
 | [] => some []
 | v :: vs => match lend os sel v with
  | none => none
  | some d => match lendL os sel vs with
   | none => none
   | some ds => some (d :: ds)
end
def D.scrub : D → D
 | .sl _ => .top
 | d => d
def gAV (k c0 j : Nat) (i : Nat) (d : D) (o : Nat) : AV := match d with
 | .sl ys => if i = c0 ∧ j < k then .sub o j ys.length else .sl .sh ys
 | d => d.av .sh
def AV.isHw : AV → Bool
 | .hw _ => true
 | _ => false
def loadAV (agg : Bool) (n : Nat) (a : AV) (os : List Obj) : Option AV :=
 match a with
 | .ep m cs off => if agg then (cut cs off n).map fun l => .agg (l.map (D.av m)) else (cs[off]?).map (D.av m)
 | .ptr o off => match os.getD o .dead with
  | .box cs => if agg then (cut cs off n).map .agg else cs[off]?
  | _ => none
 | .rp o j c => match os.getD o .dead with
  | .row _ k c0 xs => match xs[j]? with
   | some el =>
    if agg then (cut el c n).map fun l => .agg (l.mapIdx fun i d => gAV k c0 j (c + i) d o) else (el[c]?).map fun d => gAV k c0 j c d o
   | none => none
  | .frz _ xs => match xs[j]? with
   | some el => if agg then (cut el c n).map fun l => .agg (l.map (D.av .sh)) else (el[c]?).map (D.av .sh)
   | none => none
  | _ => none
 | .subp o j i => match os.getD o .dead with
  | .row _ k c0 xs => match xs[j]? with
   | some el => match el[c0]? with
    | some (.sl ys) => if agg = true ∨ k ≤ j then none else match ys[i]? with
     | some [d] => some (d.av .sh)
     | _ => none
    | _ => none
   | none => none
  | _ => none
 | _ => none
def freeze (v : AV) (os : List Obj) : Option (D × List Obj) :=
 match v with
 | .hw o => match os.getD o .dead with
  | .row sz _ _ xs => some (.sl xs, os.set o (.frz sz xs))
  | .frz _ xs => some (.sl xs, os)
  | _ => none
 | v => v.toD.map fun d => (d, os)
def freezeL : List AV → List Obj → Option (List D × List Obj)
 | [], os => some ([], os)
 | v :: vs, os => match freeze v os with
  | none => none
  | some (d, os) => match freezeL vs os with
   | none => none
   | some (ds, os) => some (d :: ds, os)
def toDs : List AV → Option (List D)
 | [] => some []
 | v :: vs => match v.toD with
  | none => none
  | some d => match toDs vs with | some ds => some (d :: ds) | none => none
def hwIx : List AV → Option (Nat × Nat)
 | [] => none
 | .hw o :: _ => some (0, o)
 | _ :: vs => match hwIx vs with | some (p, o) => some (p + 1, o) | none => none
def wideIx (own : Bool) (n j k c0 sz : Nat) (v : AV) : Option (Nat × Nat) := match own && Nat.ble 2 n && Nat.blt c0 sz with
 | false => none
 | true => match hwIx v.cells with
  | none => none
  | some po => match Nat.beq j k with | true => some po | false => none
def storeWide (o j k c0 c sz p o' : Nat) (el : List D) (xs : List (List D)) (v : AV) (os : List Obj) : Option (List Obj) := match Nat.beq o' o with
 | true => none
 | false => match Nat.beq c0 (c + p) || Nat.beq k 0 with
  | false => none
  | true => match os.getD o' .dead with
   | .row 1 0 _ ys => match toDs (v.cells.set p (.int .i64 0)) with
    | some ds => some ((os.set o' .dead).set o (.row sz (k + 1) (c + p) (xs.set j (splice el c (ds.set p (.sl ys))))))
    | none => none
   | _ => none
def storeAV (own : Bool) (n : Nat) (a v : AV) (os : List Obj) : Option (List Obj) :=
 if v.cells.length ≠ n then none else
 match a with
 | .ptr o off => match os.getD o .dead with
  | .box cs => if off + n ≤ cs.length ∧ v.cells.all AV.one then some (os.set o (.box (splice cs off v.cells))) else none
  | _ => none
 | .rp o j c => match os.getD o .dead with
  | .row sz k c0 xs => match xs[j]? with
   | some el =>
    if c + n ≤ el.length then
     if j < k ∧ c ≤ c0 ∧ c0 < c + n then none
     else if own ∧ j = k ∧ c = c0 ∧ n = 1 ∧ v.isHw then
      match v with
      | .hw o' => if o' = o then none else match os.getD o' .dead with
       | .row 1 0 _ ys => some ((os.set o' .dead).set o (.row sz (k + 1) c0 (xs.set j (el.set c0 (.sl ys)))))
       | _ => none
      | _ => none
     else match wideIx own n j k c0 sz v with
      | some (p, o') => storeWide o j k c0 c sz p o' el xs v os
      | none => match freezeL v.cells os with
       | none => none
       | some (ds, os') => match os'.getD o .dead with
        | .row sz k c0 xs => some (os'.set o (.row sz k c0 (xs.set j (splice el c ds))))
        | _ => none
    else none
   | none => none
  | _ => none
 | .subp o j i => match os.getD o .dead with
  | .row sz k c0 xs => match xs[j]? with
   | some el => match el[c0]? with
    | some (.sl ys) => match v.toD with
     | some d => if i < ys.length ∧ j < k then some (os.set o (.row sz k c0 (xs.set j (el.set c0 (.sl (ys.set i [d.scrub])))))) else none
     | none => none
    | _ => none
   | none => none
  | _ => none
 | _ => none
def binI (op : BinOp) (k : IntKind) (a b : Int) : Option AV :=
 match op with
 | .add => some (.int k (k.wrap (a + b)))
 | .sub => some (.int k (k.wrap (a - b)))
 | .mul => some (.int k (k.wrap (a * b)))
 | .quo => if b = 0 then none else some (.int k (k.wrap (a.tdiv b)))
 | .rem => if b = 0 then none else some (.int k (a.tmod b))
 | .xor => some (.int k (k.wrap (BitVec.ofInt k.bits a ^^^ BitVec.ofInt k.bits b).toNat))
 | .eql => some (.bool (a == b))
 | .neq => some (.bool (a != b))
 | .lss => some (.bool (decide (a < b)))
 | .leq => some (.bool (decide (a ≤ b)))
 | .gtr => some (.bool (decide (a > b)))
 | .geq => some (.bool (decide (a ≥ b)))
 | _ => none
def binS (op : BinOp) (a b : ByteArray) : Option AV :=
 match op with
 | .add => if a.size + b.size ≤ 9223372036854775807 then some (.str (a ++ b)) else none
 | .eql => some (.bool (a.toList == b.toList))
 | .neq => some (.bool !(a.toList == b.toList))
 | .lss => some (.bool (Op.bytesLess a.toList b.toList))
 | .leq => some (.bool (Op.bytesLess a.toList b.toList || a.toList == b.toList))
 | .gtr => some (.bool !(Op.bytesLess a.toList b.toList || a.toList == b.toList))
 | .geq => some (.bool !(Op.bytesLess a.toList b.toList))
 | _ => none
def binAV (op : BinOp) (x y : AV) : Option AV :=
 match x, y with
 | .int k a, .int k' b =>
  if op = .shr then (if k = .u64 ∧ 0 ≤ b then some (.int k (a.fdiv (2 ^ (Nat.min b.toNat k.bits)))) else none)
  else if k = k' then binI op k a b else none
 | .str a, .str b => binS op a b
 | _, _ => none
def eqCell : Nat → AV → AV → Option Bool
 | 0, .bool a, .bool b => some (a == b)
 | 1, .int k a, .int k' b => if k = k' then some (a == b) else none
 | 2, .str a, .str b => some (a.toList == b.toList)
 | _, _, _ => none
def eqCells : List Nat → List AV → List AV → Option Bool
 | [], _, _ => some true
 | k :: ks, x :: xs, y :: ys => match eqCell k x y with
  | none => none
  | some true => eqCells ks xs ys
  | some false => some false
 | _, _, _ => none
def bytesD : List (List D) → Option (List Int)
 | [] => some []
 | [.int .u8 n] :: xs => match bytesD xs with | some l => some (n :: l) | none => none
 | _ :: _ => none
def minI : List AV → Option AV
 | [.int k a, .int _ b] => some (.int k (if b < a then b else a))
 | _ => none
def maxI : List AV → Option AV
 | [.int k a, .int _ b] => some (.int k (if b > a then b else a))
 | _ => none
def fillAV (cs : List AV) : List (Nat × Nat × AV) → Option (List AV)
 | [] => some cs
 | (off, n, v) :: ps => if v.okc ∧ v.cells.length = n ∧ off + n ≤ cs.length then fillAV (splice cs off v.cells) ps else none
def setAt (os : List Obj) (nb : Nat) (o : Obj) : List Obj := (os ++ List.replicate (nb + 1 - os.length) Obj.dead).set nb o
def szOk (sz : Nat) : List (List D) → Bool
 | [] => true
 | el :: _ => Nat.beq el.length sz
def takeEls (own : Bool) (sz : Nat) (x : AV) (os : List Obj) : Option (List (List D) × Option (Nat × Nat) × List Obj) :=
 match x with
 | .nils => some ([], none, os)
 | .sl .sh ys => if szOk sz ys then some (ys, none, os) else none
 | .sl .br ys => if szOk sz ys then some (ys.map (·.map D.scrub), none, os) else none
 | .hw o => match os.getD o .dead with
  | .row s' 0 _ ys => if s' = sz then some (ys, none, os) else none
  | .row s' (_ + 1) _ ys => if s' = sz then some (ys.map (·.map D.scrub), none, os) else none
  | .frz s' ys => if s' = sz then some (ys, none, os) else none
  | _ => none
 | .hs o lo len => match os.getD o .dead with
  | .row s' 0 _ ys => if s' = sz ∧ lo + len ≤ ys.length then some (view ys lo len, none, os) else none
  | .row s' (_ + 1) _ ys => if s' = sz ∧ lo + len ≤ ys.length then some ((view ys lo len).map (·.map D.scrub), none, os) else none
  | .frz s' ys => if s' = sz ∧ lo + len ≤ ys.length then some (view ys lo len, none, os) else none
  | .box cs =>
   if lo = 0 ∧ cs.length = len * sz then
    match own, len, cs.findIdx? (fun v => match v with | .hw _ => true | _ => false) with
    | true, 1, some c0 => match cs[c0]? with
     | some (.hw o') => if o' = o then none else match os.getD o' .dead with
      | .row 1 0 _ ys => match toDs (cs.set c0 .nils) with
       | some ds => some ([ds.set c0 (.sl ys)], some (c0, o'), os.set o' .dead)
       | none => none
      | _ => none
     | _ => none
    | _, _, _ => match freezeL cs os with
     | some (ds, os') => some (chunks sz len ds, none, os')
     | none => none
   else none
  | .dead => none
 | _ => none
def appAV (own : Bool) (sz bytes nb : Nat) (s x : AV) (os : List Obj) : Option (AV × List Obj) :=
 match takeEls own sz x os with
 | none => none
 | some (ys, c?, os) =>
  if bytes = 0 then none else
  match s with
  | .nils => if ys.length * bytes ≤ 140737488355328 then
    some (.hw nb, setAt os nb (match c? with | some c0 => .row sz 1 c0.1 ys | none => .row sz 0 0 ys)) else none
  | .hw o => match os.getD o .dead with
   | .row s' k c0 xs => if s' = sz ∧ (xs.length + ys.length) * bytes ≤ 140737488355328 then
     match c? with
     | some c1 => if c1.2 ≠ o ∧ k = xs.length ∧ (xs.length = 0 ∨ c0 = c1.1) then some (.hw nb, setAt (os.set o .dead) nb (.row sz (xs.length + 1) c1.1 (xs ++ ys))) else none
     | none => some (.hw nb, setAt (os.set o .dead) nb (.row sz k c0 (xs ++ ys)))
    else none
   | _ => none
  | _ => none
def lenAV (x : AV) (os : List Obj) : Option Int :=
 match x with
 | .sl _ xs => some xs.length
 | .nils => some 0
 | .hw o => match os.getD o .dead with | .row _ _ _ xs => some xs.length | .frz _ xs => some xs.length | _ => none
 | .hs _ _ len => some len
 | .sub _ _ len => some len
 | _ => none
def iadrAV (sz : Nat) (x : AV) (i : Int) (os : List Obj) : Option AV :=
 if i < 0 then none else
 match x with
 | .sl m xs => match xs[i.toNat]? with | some el => if el.length = sz then some (.ep m el 0) else none | none => none
 | .hw o => match os.getD o .dead with
  | .row s' _ _ xs => if i.toNat < xs.length ∧ s' = sz then some (.rp o i.toNat 0) else none
  | .frz s' xs => if i.toNat < xs.length ∧ s' = sz then some (.rp o i.toNat 0) else none
  | _ => none
 | .hs o lo len => if i.toNat < len then match os.getD o .dead with
  | .box _ => if lo = 0 then some (.ptr o (i.toNat * sz)) else none
  | .row s' _ _ _ => if s' = sz then some (.rp o (lo + i.toNat) 0) else none
  | .frz s' _ => if s' = sz then some (.rp o (lo + i.toNat) 0) else none
  | .dead => none else none
 | .sub o j len => if i.toNat < len ∧ sz = 1 then some (.subp o j i.toNat) else none
 | _ => none
def sslAV (sz : Nat) (x : AV) (lo hi : Option Int) (os : List Obj) : Option AV :=
 let l := lo.getD 0
 let go (n : Nat) (f : Nat → Nat → AV) : Option AV :=
  let h := hi.getD n
  if 0 ≤ l ∧ l ≤ h ∧ h ≤ n then some (f l.toNat (h.toNat - l.toNat)) else none
 match x with
 | .sl m xs => if lo.isNone || xs.all (fun el => Nat.beq el.length sz) then go xs.length fun a n => .sl m (view xs a n) else none
 | .nils => go 0 fun _ _ => .nils
 | .hw o => match os.getD o .dead with
  | .row s' _ _ xs => if s' = sz then go xs.length fun a n => .hs o a n else none
  | .frz s' xs => if s' = sz then go xs.length fun a n => .hs o a n else none
  | _ => none
 | .hs o a0 n0 => match os.getD o .dead with
  | .row s' _ _ xs => if s' = sz then go n0 fun a n => .hs o (a0 + a) n else none
  | .frz s' xs => if s' = sz then go n0 fun a n => .hs o (a0 + a) n else none
  | _ => none
 | _ => none
def sstrAV (s : ByteArray) (lo hi : Option Int) : Option AV :=
 let l := lo.getD 0
 let h := hi.getD s.size
 if 0 ≤ l ∧ l ≤ h ∧ h ≤ s.size then some (.str (s.extract l.toNat h.toNat)) else none
def optI (ts : Ts) : Option X → Option (Option Int)
 | none => some none
 | some (.t n) => match ts.at n with | .int _ i => some (some i) | _ => none
 | some (.c (.int _ i)) => some (some i)
 | _ => none
def getX (ts : Ts) : X → AV
 | .t n => ts.at n
 | .c v => v
structure St where
 ts : Ts
 os : List Obj
structure CF where
 nt : Nat
 res : List (Nat × Option (Bool × Nat))
 body : C
 inl : Bool := false
 byRef : List Bool := []
 own : Bool := false
 demC : Bool := false
 demR : Bool := false
 live : List Nat := []
 out : List Nat := []
 shIn : Bool := false
 nilr : List (Nat × Nat × Nat) := []
 ext : Option (List AV → List Obj → Option (AV × List Obj)) := none
abbrev CallF := Nat → List AV → List Obj → Option (AV × List Obj)
def Obj.demote : Obj → Obj
 | .row sz _ _ xs => .row sz 0 sz xs
 | o => o
def passArgs (os : List Obj) (sel : List Nat) : List Bool → List AV → Option (List AV)
 | _, [] => some []
 | b, v :: vs =>
  match (if b.headD false then (if v.noBr then some (v.ren (posOf sel)) else none) else lend os sel v) with
  | none => none
  | some v' => match passArgs os sel b.tail vs with
   | none => none
   | some l => some (v' :: l)
def refIds : List Bool → List AV → List Nat
 | _, [] => []
 | b, v :: vs => (if b.headD false then v.ids else []) ++ refIds b.tail vs
def backId (sel : List Nat) (nb m : Nat) (o : Nat) : Option Nat := if o < m then sel[o]? else some (nb + (o - m))
def putBack (sel : List Nat) (news : List Obj) : List Obj → List Obj
 | os => (sel.zip news).foldl (fun os p => os.set p.1 p.2) os
def localCall (call : CallF) (cf : CF) (demC : Bool) (f : Nat) (args : List AV) (nb : Nat) (os : List Obj) : Option (AV × List Obj) :=
 let sel := reach os 40 (refIds cf.byRef args) []
 let so := pickOs sel os
 if so.all Obj.noBr && sel.all (fun o => Nat.blt o os.length) then
  match passArgs os sel cf.byRef args with
  | none => none
  | some args' => match call f args' so with
   | none => none
   | some (r, os') =>
    let ρ := backId sel nb sel.length
    let os'' := os'.map (Obj.ren ρ)
    let os'' := if demC then os''.map Obj.demote else os''
    let base := putBack sel os'' os
    some (r.ren ρ, base ++ (List.replicate (nb - base.length) Obj.dead) ++ os''.drop sel.length)
 else none
def ckCall (call : CallF) : CallF := fun f args os => match call f args os with
 | some (r, os') => (match (r.noBr && os'.all Obj.noBr) && Nat.ble os.length os'.length with
  | true => some (r, os')
  | false => none)
 | none => none
def callOf (cf : CF) (call : CallF) : CallF := match cf.inl with
 | true => ckCall call
 | false => call
def inlC (cf : CF) (vs : List AV) : Bool := cf.inl && !AV.noBrL vs
def evI (call : CallF) (G : Nat → Option CF) (me : CF) (ins : I) (ts : Ts) (nb : Nat) (os : List Obj) : Option (AV × List Obj) :=
 match ins with
 | .mv x => (getX ts x).force fun v => some (v, os)
 | .pick c a b => match getX ts c with
  | .bool true => (getX ts a).force fun v => some (v, os)
  | .bool false => (getX ts b).force fun v => some (v, os)
  | _ => none
 | .bin op x y => (binAV op (getX ts x) (getX ts y)).map fun v => (v, os)
 | .eqa neg ks x y => match getX ts x, getX ts y with
  | .agg xs, .agg ys => (eqCells ks xs ys).map fun b => (.bool (if neg then !b else b), os)
  | _, _ => none
 | .beq neg x y => match getX ts x, getX ts y with
  | .bool p, .bool q => some (.bool (if neg then !(p == q) else p == q), os)
  | _, _ => none
 | .not x => match getX ts x with | .bool b => some (.bool (!b), os) | _ => none
 | .neg x => match getX ts x with | .int k n => some (.int k (k.wrap (0 - n)), os) | _ => none
 | .conv k x => match getX ts x with | .int _ n => some (.int k (k.wrap n), os) | _ => none
 | .cstr x => match getX ts x with | .str s => some (.str s, os) | _ => none
 | .b2s x =>
  let go (ys : List (List D)) : Option (AV × List Obj) := (bytesD ys).map fun l => (.str (strOfNums l), os)
  match getX ts x with
  | .sl _ ys => go ys
  | .hw o => match os.getD o .dead with | .row _ _ _ ys => go ys | .frz _ ys => go ys | _ => none
  | _ => none
 | .alloc zs => some (.ptr nb 0, setAt os nb (.box zs))
 | .box x => (getX ts x).force fun v => if v.okc then some (.ptr nb 0, setAt os nb (.box v.cells)) else none
 | .build zs ps => (fillAV zs (ps.map fun p => (p.1, p.2.1, getX ts p.2.2))).map fun cs => (.agg cs, os)
 | .mks sz len zs ps =>
  match fillAV ((List.replicate len zs).flatten) (ps.map fun p => (p.1, p.2.1, getX ts p.2.2)) with
  | none => none
  | some cs => if cs.length ≠ len * sz then none else match toDs cs with
   | some ds => some (.hw nb, setAt os nb (.row sz 0 0 (chunks sz len ds)))
   | none => some (.hs nb 0 len, setAt os nb (.box cs))
 | .mksl sz bytes zs l c => match getX ts l, getX ts c, toDs zs with
  | .int _ a, .int _ b, some ds => if 0 ≤ a ∧ a = b ∧ a * bytes ≤ 140737488355328 ∧ a ≤ 9223372036854775807 then some (.hw nb, setAt os nb (.row sz 0 0 (List.replicate a.toNat ds))) else none
  | _, _, _ => none
 | .load agg n a => (loadAV agg n (getX ts a) os).map fun v => (v, os)
 | .store n a v => (storeAV me.own n (getX ts a) (getX ts v) os).map fun os => (.un, os)
 | .nilc x => match getX ts x with
  | .ptr o a => some (.ptr o a, os)
  | .rp o j c => some (.rp o j c, os)
  | .ep m cs off => some (.ep m cs off, os)
  | .subp o j i => some (.subp o j i, os)
  | _ => none
 | .fadr f x => match getX ts x with
  | .ptr o a => some (.ptr o (a + f), os)
  | .rp o j c => some (.rp o j (c + f), os)
  | .ep m cs off => some (.ep m cs (off + f), os)
  | _ => none
 | .iadr sz x i => match getX ts i with | .int _ n => (iadrAV sz (getX ts x) n os).map fun v => (v, os) | _ => none
 | .idx x i => match getX ts x, getX ts i with
  | .str s, .int _ n => if h : 0 ≤ n ∧ n.toNat < s.size then some (.int .u8 ((s[n.toNat]'h.2).toNat : Int), os) else none
  | _, _ => none
 | .sstr x lo hi => match getX ts x, optI ts lo, optI ts hi with
  | .str s, some l, some h => (sstrAV s l h).map fun v => (v, os)
  | _, _, _ => none
 | .ssl sz x lo hi => match optI ts lo, optI ts hi with
  | some l, some h => (sslAV sz (getX ts x) l h os).map fun v => (v, os)
  | _, _ => none
 | .ext x i => match getX ts x with | .tup vs => (vs[i]?).map fun v => (v, os) | _ => none
 | .mkfn f caps => forceL (caps.map (getX ts)) fun l => some (.fn f l, os)
 | .call f args => match G f with
  | none => none
  | some cf => forceL (args.map (getX ts)) fun vs => if inlC cf vs then call f vs os else localCall (callOf cf call) cf me.demC f vs nb os
 | .callv x args => match getX ts x with
  | .fn f caps => match G f with
   | none => none
   | some cf => forceL (args.map (getX ts) ++ caps) fun vs => if inlC cf vs then call f vs os else localCall (callOf cf call) cf me.demC f vs nb os
  | _ => none
 | .lens x => match getX ts x with | .str s => some (.int .i64 s.size, os) | _ => none
 | .len x => (lenAV (getX ts x) os).map fun n => (.int .i64 n, os)
 | .app sz bytes _ s x => appAV me.own sz bytes nb (getX ts s) (getX ts x) os
 | .min xs => (minI (xs.map (getX ts))).map fun v => (v, os)
 | .max xs => (maxI (xs.map (getX ts))).map fun v => (v, os)
 | .copy .. => none
 | .clear .. => none
def putT (ts : Ts) (d : Option Nat) (v : AV) : Ts := match d with | some t => (t, v) :: ts | none => ts
def evO (call : CallF) (G : Nat → Option CF) (me : CF) (o : O) (nb : Nat) (st : St) : Option St :=
 let go : Option St := match evI call G me o.ins st.ts nb st.os with
  | none => none
  | some (v, os) => match Nat.ble st.os.length os.length with
   | true => some ⟨putT st.ts o.dst v, os⟩
   | false => none
 match o.guard with
 | none => go
 | some (t, b) => match st.ts.at t with
  | .bool true => if b then go else some ⟨putT st.ts o.dst .un, st.os⟩
  | .bool false => if b then some ⟨putT st.ts o.dst .un, st.os⟩ else go
  | .un => some ⟨putT st.ts o.dst .un, st.os⟩
  | _ => none
def evOps (call : CallF) (G : Nat → Option CF) (me : CF) : List O → St → Option St
 | [], st => some st
 | o :: os, st => match evO call G me o st.os.length st with
  | none => none
  | some st' => evOps call G me os st'
def nbOf : List Nat → Nat → Nat → Nat → Nat
 | [], _, _, n => n
 | f :: fs, L, i, n => bif Nat.beq f i then L else nbOf fs (L + 1) i n
def evOpsT (call : CallF) (G : Nat → Option CF) (me : CF) (frs : List Nat) (L : Nat) : Nat → List O → St → Option (St × List St)
 | _, [], st => some (st, [st])
 | i, o :: l, st => match evO call G me o (nbOf frs L i st.os.length) st with
  | none => none
  | some st' => match evOpsT call G me frs L (i + 1) l st' with
   | none => none
   | some (sf, tr) => some (sf, st :: tr)
def rdV (me : CF) (ins : I) (ts : Ts) (os : List Obj) : Option AV := (evI (fun _ _ _ => none) (fun _ => none) me ins ts 0 os).map Prod.fst
def osAt (tr : List St) (i : Nat) : List Obj := match tr[i]? with
 | some s => s.os
 | none => []
def Same (me : CF) (ops : List O) (ts : Ts) (tr : List St) : List (Nat × Nat) → Prop
 | [] => True
 | (i, p) :: l => (match ops[i]? with
  | some o => rdV me o.ins ts (osAt tr p) = rdV me o.ins ts (osAt tr i)
  | none => True) ∧ Same me ops ts tr l
def hitsN (L n : Nat) (l : List Nat) : Bool := l.any fun q => Nat.ble L q && Nat.blt q (L + n)
def opIds (ts : Ts) (ins : I) : List Nat := AV.idsL (ins.xs.map (getX ts))
def callSel (G : Nat → Option CF) (ts : Ts) (os : List Obj) : I → Option (List Nat)
 | .call f args => match G f with
  | some cf => if inlC cf (args.map (getX ts)) then none else some (reach os 40 (refIds cf.byRef (args.map (getX ts))) [] ++ AV.idsL (args.map (getX ts)) ++ (AV.idsL (args.map (getX ts))).flatMap fun o => (os.getD o .dead).ids)
  | none => none
 | .callv x args => match getX ts x with
  | .fn f caps => match G f with
   | some cf => if inlC cf (args.map (getX ts) ++ caps) then none else some (reach os 40 (refIds cf.byRef (args.map (getX ts) ++ caps)) [] ++ AV.idsL (args.map (getX ts) ++ caps) ++ (AV.idsL (args.map (getX ts) ++ caps)).flatMap fun o => (os.getD o .dead).ids)
   | none => none
  | _ => none
 | _ => none
def apartOk (G : Nat → Option CF) (ts : Ts) (L n : Nat) (frs : List Nat) : Nat → List O → List St → Bool
 | _, [], _ => true
 | _, _ :: _, [] => false
 | i, o :: l, s :: tr =>
  (match o.ins.looks with
   | true => !hitsN L n (opIds ts o.ins)
   | false => match !o.ins.reads && !hasN frs i && frs.any (fun f => Nat.blt i f) with
    | true => (match callSel G ts s.os o.ins with
     | some sel => !hitsN L n sel
     | none => false)
    | false => true) && apartOk G ts L n frs (i + 1) l tr
open Classical in
noncomputable def evDraw (call : CallF) (G : Nat → Option CF) (me : CF) (prs : List (Nat × Nat)) (frs : List Nat) (ops : List O) (st : St) : Option St :=
 match evOpsT call G me frs st.os.length 0 ops ⟨st.ts, st.os ++ List.replicate frs.length Obj.dead⟩ with
 | none => none
 | some (sf, tr) => match (match frs with | [] => true | _ :: _ => apartOk G sf.ts st.os.length frs.length frs 0 ops tr) with
  | false => none
  | true => match prs with
   | [] => some sf
   | p :: ps => if Same me ops sf.ts tr (p :: ps) then some sf else none
inductive Xt where
 | nrm
 | ext (id : Nat)
 | ret
 deriving DecidableEq
def mask : List Nat → Ts → Ts
 | [], _ => []
 | t :: l, ts => (ts.at t).force fun v => (t, v) :: mask l ts
def Ts.ren (ρ : Nat → Option Nat) : Ts → Ts
 | [] => []
 | (t, v) :: ts => (v.ren ρ).force fun v => (t, v) :: Ts.ren ρ ts
def Ts.ids : Ts → List Nat
 | [] => []
 | (_, v) :: ts => v.ids ++ Ts.ids ts
def norm (m : Nat) (live : List Nat) (st : St) : St :=
 let ts := mask live st.ts
 let ord := reach st.os 400 (((List.range m).flatMap fun o => (st.os.getD o .dead).ids) ++ Ts.ids ts) (List.range m)
 ⟨Ts.ren (posOf ord) ts, pickOs ord st.os⟩
def loopN (head : St → St) : Nat → (St → Option (Xt × St)) → St → Option (Xt × St)
 | 0, _, _ => none
 | n + 1, b, st => match b st with
  | none => none
  | some (.nrm, st') => loopN head n b (head st')
  | some r => some r
def exitN (m : Nat) (out : List Nat) (b : St → Option (Xt × St)) (st : St) : Option (Xt × St) := match b st with
 | none => none
 | some (.nrm, st') => some (.nrm, st')
 | some (x, st') => some (x, norm m out st')
noncomputable def evC (call : CallF) (G : Nat → Option CF) (me : CF) (m n : Nat) : C → St → Option (Xt × St)
 | .skip, st => some (.nrm, st)
 | .reg false _ _ ops, st => match evOps call G me ops st with
  | none => none
  | some st' => some (.nrm, st')
 | .reg true prs frs ops, st => match evDraw call G me prs frs ops st with
  | none => none
  | some st' => some (.nrm, st')
 | .seq a b, st => match evC call G me m n a st with
  | none => none
  | some (.nrm, st') => evC call G me m n b st'
  | some r => some r
 | .cond c a b, st => match getX st.ts c with
  | .bool true => evC call G me m n a st
  | .bool false => evC call G me m n b st
  | _ => none
 | .blk id c, st => match evC call G me m n c st with
  | some (.ext i, st') => if i = id then some (.nrm, st') else some (.ext i, st')
  | r => r
 | .loop c, st => loopN (norm m me.live) n (exitN m me.out (evC call G me m n c)) (norm m me.live st)
 | .exit id, st => some (.ext id, st)
 | .ret, st => some (.ret, st)
def resOf (ts : Ts) (os : List Obj) : List (Nat × Option (Bool × Nat)) → Option (List AV)
 | [] => some []
 | (t, none) :: rs => match resOf ts os rs with | some l => (ts.at t).force fun v => some (v :: l) | none => none
 | (t, some (agg, n)) :: rs => match loadAV agg n (ts.at t) os with
  | none => none
  | some v => match resOf ts os rs with | some l => some (v :: l) | none => none
def start (i : Nat) : List AV → Nat → Ts
 | [], nt => (List.range (nt - i)).map fun j => (i + j, .un)
 | v :: vs, nt => (i, v) :: start (i + 1) vs nt
mutual
def AV.toSh : AV → AV
 | .sl _ xs => .sl .sh xs
 | .ep _ cs off => .ep .sh cs off
 | .fn f caps => .fn f (AV.toShL caps)
 | .agg cs => .agg (AV.toShL cs)
 | .tup vs => .tup (AV.toShL vs)
 | v => v
def AV.toShL : List AV → List AV
 | [] => []
 | v :: vs => v.toSh :: AV.toShL vs
end
mutual
def AV.flat : AV → Bool
 | .sl _ _ | .ep _ _ _ => false
 | .fn _ caps => AV.flatL caps
 | .agg cs => AV.flatL cs
 | .tup vs => AV.flatL vs
 | _ => true
def AV.flatL : List AV → Bool
 | [] => true
 | v :: vs => v.flat && AV.flatL vs
end
def D.flat : D → Bool
 | .sl _ => false
 | _ => true
def D.flatN : D → Bool
 | .sl ys => ys.all fun el => el.all D.flat
 | _ => true
def rowFlat (k c0 : Nat) (xs : List (List D)) : Bool := Nat.ble xs.length k && xs.all fun el => (el.set c0 .top).all D.flat && (match el[c0]? with | some d => d.flatN | none => true)
def Obj.flat : Obj → Bool
 | .box cs => AV.flatL cs
 | .row _ k c0 xs => rowFlat k c0 xs || xs.all fun el => el.all D.flat
 | .frz _ _ => false
 | .dead => true
def nilFix : List (Nat × Nat × Nat) → List AV → List Obj → List AV × List Obj
 | [], cs, os => (cs, os)
 | (p, sz, c0) :: l, cs, os => match cs[p]? with
  | some .nils => nilFix l (cs.set p (.hw os.length)) (os ++ [.row sz 0 c0 []])
  | _ => nilFix l cs os
def nilV : List (Nat × Nat × Nat) → AV → List Obj → AV × List Obj
 | [], v, os => (v, os)
 | x :: l, .agg cs, os => (.agg (nilFix (x :: l) cs os).1, (nilFix (x :: l) cs os).2)
 | _ :: _, v, os => (v, os)
noncomputable def evCall (G : Nat → Option CF) : Nat → CallF
 | 0, _, _, _ => none
 | n + 1, f, args, os => match G f with
  | none => none
  | some cf => match cf.ext with
   | some g => if cf.inl then none else g args os
   | none =>
   if cf.nt < args.length then none else
   match evC (evCall G n) G cf os.length n cf.body ⟨start 0 (if cf.shIn then AV.toShL args else args) cf.nt, os⟩ with
   | none => none
   | some (.ext _, _) => none
   | some (_, st) => match resOf st.ts st.os cf.res with
    | none => none
    | some vs =>
     let v : AV := match vs with | [v] => v | vs => .tup vs
     if cf.inl then (if cf.shIn then none else some (v, st.os)) else
     let m := os.length
     let q := nilV cf.nilr v st.os
     let ord := reach q.2 400 (((List.range m).flatMap fun o => (q.2.getD o .dead).ids) ++ q.1.ids) (List.range m)
     let os' := pickOs ord q.2
     let os' := if cf.demR then os'.map Obj.demote else os'
     let v' := q.1.ren (posOf ord)
     if (v'.noBr && os'.all Obj.noBr) && (!cf.shIn || (!cf.demR && v'.flat && os'.all Obj.flat)) then some (v', os') else none
end Go.Gn

namespace Go.Gn
open Go
def cloneD (m : Md) (xs : List (List D)) : List (List D) := match m with
 | .br => xs.map (·.map D.scrub)
 | .sh => xs
def cloneX (sz bytes c0 : Nat) (args : List AV) (os : List Obj) : Option (AV × List Obj) := match args, os with
 | [.sl m xs], [] => if szOk sz xs ∧ xs.length * bytes ≤ 140737488355328 then some (.hw 0, [.row sz 0 c0 (cloneD m xs)]) else none
 | _, _ => none
def deleteX (sz : Nat) (args : List AV) (os : List Obj) : Option (AV × List Obj) := match args, os with
 | [.hw 0, .int .i64 i, .int .i64 j], [.row s' k c0 xs] => if s' = sz ∧ 0 ≤ i ∧ i ≤ j ∧ j ≤ xs.length ∧ (k = 0 ∨ k = xs.length) then
   some (.hw 1, [.dead, .row sz (k - (j.toNat - i.toNat)) c0 (xs.take i.toNat ++ xs.drop j.toNat)]) else none
 | _, _ => none
def insertX (bytes : Nat) (args : List AV) (os : List Obj) : Option (AV × List Obj) := match args, os with
 | [.hw 0, .int .i64 i, .hs 1 0 1], [.row 2 k c0 xs, .box [.str s, .hw 2], .row 1 0 c ys] =>
   if 0 ≤ i ∧ i ≤ xs.length ∧ k = xs.length ∧ (xs.length = 0 ∨ c0 = 1) ∧ (xs.length + 1) * bytes ≤ 140737488355328 then
    some (.hw 3, [.dead, .box [.str s, .hw 2], .dead, .row 2 (xs.length + 1) 1 (xs.take i.toNat ++ [[.str s, .sl ys]] ++ xs.drop i.toNat)]) else none
 | _, _ => none
def cmpStr (a b : ByteArray) : Int := if Op.bytesLess a.toList b.toList then -1 else if Op.bytesLess b.toList a.toList then 1 else 0
def compareX (args : List AV) (os : List Obj) : Option (AV × List Obj) := match args, os with
 | [.str a, .str b], [] => some (.int .i64 (cmpStr a b), [])
 | _, _ => none
end Go.Gn

namespace Go.Gn
open Go
def Keep (S : Nat → Prop) (w w' : World) : Prop := ∀ b, S b → w'.heap[b]? = w.heap[b]?
theorem Keep.refl (S : Nat → Prop) (w : World) : Keep S w w := fun _ _ => rfl
theorem Keep.trans {S : Nat → Prop} {w w1 w2 : World} (h : Keep S w w1) (h' : Keep S w1 w2) : Keep S w w2 := fun b hb => (h' b hb).trans (h b hb)
theorem Keep.sub {S S' : Nat → Prop} {w w' : World} (h : Keep S w w') (hs : ∀ b, S' b → S b) : Keep S' w w' := fun b hb => h b (hs b hb)
def cellAt (w : World) (b i : Nat) : Option Value := w.cell? ⟨b, i, none⟩
theorem cellAt_keep {S : Nat → Prop} {w w' : World} (h : Keep S w w') {b : Nat} (hb : S b) (i : Nat) : cellAt w' b i = cellAt w b i := by
 unfold cellAt World.cell?
 rw [h b hb]
inductive RepD (S : Nat → Prop) (w : World) : D → Value → Prop
 | int (k : IntKind) (n : Int) : RepD S w (.int k n) (.int k n)
 | bool (b : Bool) : RepD S w (.bool b) (.bool b)
 | str (s : ByteArray) : RepD S w (.str s) (.string s)
 | nil (A : Option Addr) (c : Nat) : RepD S w (.sl []) (.slice A 0 c)
 | sl (xs : List (List D)) (b off sz cap : Nat) (f : Nat → Nat → Value) (hne : xs ≠ []) (hb : S b) (hc : xs.length ≤ cap)
   (hcell : ∀ j el, xs[j]? = some el → el.length = sz ∧ ∀ i d, el[i]? = some d → cellAt w b (off + j * sz + i) = some (f j i))
   (hrep : ∀ j el i d, xs[j]? = some el → el[i]? = some d → RepD S w d (f j i)) : RepD S w (.sl xs) (.slice (some ⟨b, off, none⟩) xs.length cap)
 | top (v : Value) (h : v.oneCell' = true) : RepD S w .top v
theorem RepD.mono {S S' : Nat → Prop} {w w' : World} {d : D} {v : Value} (h : RepD S w d v) (hk : Keep S w w') (hs : ∀ b, S b → S' b) : RepD S' w' d v := by
 induction h with
 | int k n => exact .int k n
 | bool b => exact .bool b
 | str s => exact .str s
 | nil A c => exact .nil A c
 | sl xs b off sz cap f hne hb hc hcell hrep ih =>
  exact .sl xs b off sz cap f hne (hs b hb) hc (fun j el hj => ⟨(hcell j el hj).1, fun i d hi => (cellAt_keep hk hb _).trans ((hcell j el hj).2 i d hi)⟩) (fun j el i d hj hi => ih j el i d hj hi)
 | top v h => exact .top v h
theorem RepD.one {S : Nat → Prop} {w : World} {d : D} {v : Value} (h : RepD S w d v) : v.oneCell' = true := by cases h <;> first | rfl | assumption
structure Meta where
 blk : Option Nat
 sz : Nat
 len : Nat
 cap : Nat
 nest : Nat → Option Nat
structure Meta.le (m m' : Meta) : Prop where
 blk : m'.blk = m.blk
 sz : m'.sz = m.sz
 len : m'.len = m.len
 cap : m'.cap = m.cap
 nest : ∀ j b, m.nest j = some b → m'.nest j = some b
theorem Meta.le_refl (m : Meta) : m.le m := ⟨rfl, rfl, rfl, rfl, fun _ _ h => h⟩
theorem Meta.le.trans {m m1 m2 : Meta} (h : m.le m1) (h' : m1.le m2) : m.le m2 :=
 ⟨h'.blk.trans h.blk, h'.sz.trans h.sz, h'.len.trans h.len, h'.cap.trans h.cap, fun j b hb => h'.nest j b (h.nest j b hb)⟩
abbrev Mu := Nat → Option Meta
def mk0 (b : Nat) : Addr := ⟨b, 0, none⟩
structure Cx where
 fix : Nat → Prop
 imm : Nat → Prop
 oth : Nat → Prop
 μ : Mu
def Cx.set (c : Cx) : Md → Nat → Prop
 | .br => c.fix
 | .sh => c.imm
mutual
inductive RepAV (c : Cx) (w : World) : AV → Value → Prop
 | int (k : IntKind) (n : Int) : RepAV c w (.int k n) (.int k n)
 | bool (b : Bool) : RepAV c w (.bool b) (.bool b)
 | str (s : ByteArray) : RepAV c w (.str s) (.string s)
 | sl (m : Md) (xs : List (List D)) (v : Value) (h : RepD (c.set m) w (.sl xs) v) : RepAV c w (.sl m xs) v
 | nils : RepAV c w .nils (.slice none 0 0)
 | ep (m : Md) (cs : List D) (off b o : Nat) (hb : c.set m b) (h : ∀ i d, cs[i]? = some d → ∃ u, cellAt w b (o + i) = some u ∧ RepD (c.set m) w d u) : RepAV c w (.ep m cs off) (.pointer (some ⟨b, o + off, none⟩))
 | ptr (o off b : Nat) (m : Meta) (hm : c.μ o = some m) (hb : m.blk = some b) : RepAV c w (.ptr o off) (.pointer (some ⟨b, off, none⟩))
 | rp (o j q b : Nat) (m : Meta) (hm : c.μ o = some m) (hb : m.blk = some b) : RepAV c w (.rp o j q) (.pointer (some ⟨b, j * m.sz + q, none⟩))
 | nilp : RepAV c w .nilp (.pointer none)
 | hw (o : Nat) (m : Meta) (hm : c.μ o = some m) : RepAV c w (.hw o) (.slice (m.blk.map mk0) m.len m.cap)
 | hs (o lo len : Nat) (A : Option Addr) (cap : Nat) (m : Meta) (hm : c.μ o = some m) (hc : len ≤ cap) (h : 0 < len → ∃ b, m.blk = some b ∧ A = some ⟨b, lo * m.sz, none⟩) : RepAV c w (.hs o lo len) (.slice A len cap)
 | sub (o j len : Nat) (A : Option Addr) (cap : Nat) (m : Meta) (hm : c.μ o = some m) (hc : len ≤ cap) (h : 0 < len → ∃ b, m.nest j = some b ∧ A = some ⟨b, 0, none⟩) : RepAV c w (.sub o j len) (.slice A len cap)
 | subp (o j i b : Nat) (m : Meta) (hm : c.μ o = some m) (hb : m.nest j = some b) : RepAV c w (.subp o j i) (.pointer (some ⟨b, i, none⟩))
 | fn (f : Nat) (caps : List AV) (vs : List Value) (h : RepAVs c w caps vs) : RepAV c w (.fn f caps) (.func (.func f) #[] vs.toArray)
 | agg (cs : List AV) (vs : List Value) (h : RepAVs c w cs vs) : RepAV c w (.agg cs) (.agg vs.toArray)
 | tup (cs : List AV) (vs : List Value) (h : RepAVs c w cs vs) : RepAV c w (.tup cs) (.tuple vs.toArray)
 | un : RepAV c w .un undef
 | top (v : Value) : RepAV c w .top v
inductive RepAVs (c : Cx) (w : World) : List AV → List Value → Prop
 | nil : RepAVs c w [] []
 | cons (a : AV) (v : Value) (aS : List AV) (vs : List Value) (h : RepAV c w a v) (hs : RepAVs c w aS vs) : RepAVs c w (a :: aS) (v :: vs)
end
structure Ext (c : Cx) (w : World) (c' : Cx) (w' : World) : Prop where
 fix : c'.fix = c.fix
 oth : c'.oth = c.oth
 imm : ∀ b, c.imm b → c'.imm b
 μ : ∀ o m, c.μ o = some m → ∃ m', c'.μ o = some m' ∧ m.le m'
 kf : Keep c.fix w w'
 ki : Keep c.imm w w'
 ko : Keep c.oth w w'
theorem Ext.refl (c : Cx) (w : World) : Ext c w c w := ⟨rfl, rfl, fun _ h => h, fun _ m h => ⟨m, h, m.le_refl⟩, Keep.refl _ _, Keep.refl _ _, Keep.refl _ _⟩
theorem Ext.trans {c c1 c2 : Cx} {w w1 w2 : World} (h : Ext c w c1 w1) (h' : Ext c1 w1 c2 w2) : Ext c w c2 w2 :=
 ⟨h'.fix.trans h.fix, h'.oth.trans h.oth, fun b hb => h'.imm b (h.imm b hb), fun o m hm => let ⟨m1, h1, l1⟩ := h.μ o m hm; let ⟨m2, h2, l2⟩ := h'.μ o m1 h1; ⟨m2, h2, l1.trans l2⟩, h.kf.trans (by rw [← h.fix]; exact h'.kf), h.ki.trans (h'.ki.sub h.imm), h.ko.trans (by rw [← h.oth]; exact h'.ko)⟩
theorem Ext.set {c c' : Cx} {w w' : World} (h : Ext c w c' w') (m : Md) (b : Nat) (hb : c.set m b) : c'.set m b := by
 cases m
 ·show c'.fix b; rw [h.fix]; exact hb
 ·exact h.imm b hb
theorem Ext.keep {c c' : Cx} {w w' : World} (h : Ext c w c' w') (m : Md) : Keep (c.set m) w w' := by
 cases m
 ·exact h.kf
 ·exact h.ki
mutual
theorem RepAV.mono {c c' : Cx} {w w' : World} (e : Ext c w c' w') : ∀ {a : AV} {v : Value}, RepAV c w a v → RepAV c' w' a v
 | _, _, .int k n => .int k n
 | _, _, .bool b => .bool b
 | _, _, .str s => .str s
 | _, _, .sl m xs v h => .sl m xs v (h.mono (e.keep m) (e.set m))
 | _, _, .nils => .nils
 | _, _, .ep m cs off b o hb h => .ep m cs off b o (e.set m b hb) fun i d hd =>
  let ⟨u, hu, hr⟩ := h i d hd
  ⟨u, (cellAt_keep (e.keep m) hb _).trans hu, hr.mono (e.keep m) (e.set m)⟩
 | _, _, .ptr o off b m hm hb => let ⟨m', hm', l⟩ := e.μ _ _ hm; .ptr o off b m' hm' (l.blk.trans hb)
 | _, _, .rp o j q b m hm hb => let ⟨m', hm', l⟩ := e.μ _ _ hm; by rw [← l.sz]; exact .rp o j q b m' hm' (l.blk.trans hb)
 | _, _, .nilp => .nilp
 | _, _, .hw o m hm => let ⟨m', hm', l⟩ := e.μ _ _ hm; by rw [← l.blk, ← l.len, ← l.cap]; exact .hw o m' hm'
 | _, _, .hs o lo len A cap m hm hc h => let ⟨m', hm', l⟩ := e.μ _ _ hm; .hs o lo len A cap m' hm' hc (by rw [l.blk, l.sz]; exact h)
 | _, _, .sub o j len A cap m hm hc h => let ⟨m', hm', l⟩ := e.μ _ _ hm; .sub o j len A cap m' hm' hc (fun hp => let ⟨b, h1, h2⟩ := h hp; ⟨b, l.nest _ _ h1, h2⟩)
 | _, _, .subp o j i b m hm hb => let ⟨m', hm', l⟩ := e.μ _ _ hm; .subp o j i b m' hm' (l.nest _ _ hb)
 | _, _, .fn f caps vs h => .fn f caps vs (h.mono e)
 | _, _, .agg cs vs h => .agg cs vs (h.mono e)
 | _, _, .tup cs vs h => .tup cs vs (h.mono e)
 | _, _, .un => .un
 | _, _, .top v => .top v
theorem RepAVs.mono {c c' : Cx} {w w' : World} (e : Ext c w c' w') : ∀ {aS : List AV} {vs : List Value}, RepAVs c w aS vs → RepAVs c' w' aS vs
 | _, _, .nil => .nil
 | _, _, .cons a v aS vs h hs => .cons a v aS vs (h.mono e) (hs.mono e)
end
theorem RepAVs.length {c : Cx} {w : World} : ∀ {aS : List AV} {vs : List Value}, RepAVs c w aS vs → aS.length = vs.length
 | _, _, .nil => rfl
 | _, _, .cons a v aS vs h hs => by simp [hs.length]
theorem RepAVs.get {c : Cx} {w : World} : ∀ {aS : List AV} {vs : List Value}, RepAVs c w aS vs → ∀ (i : Nat) (a : AV), aS[i]? = some a → ∃ v, vs[i]? = some v ∧ RepAV c w a v
 | _, _, .nil, i, a, h => by simp at h
 | _, _, .cons x v aS vs h hs, 0, a, e => by simp at e; subst e; exact ⟨v, by simp, h⟩
 | _, _, .cons x v aS vs h hs, i + 1, a, e => by simpa using hs.get i a (by simpa using e)
theorem RepAVs.of_get {c : Cx} {w : World} : ∀ {aS : List AV} {vs : List Value}, aS.length = vs.length → (∀ (i : Nat) (a : AV), aS[i]? = some a → ∃ v, vs[i]? = some v ∧ RepAV c w a v) → RepAVs c w aS vs
 | [], [], _, _ => .nil
 | a :: aS, v :: vs, hl, h => .cons a v aS vs (by obtain ⟨u, hu, hr⟩ := h 0 a (by simp); simp at hu; subst hu; exact hr)
   (RepAVs.of_get (by simpa using hl) fun i x hx => by have := h (i + 1) x (by simpa using hx); simpa using this)
 | [], _ :: _, hl, _ => by simp at hl
 | _ :: _, [], hl, _ => by simp at hl
def RepN (imm : Nat → Prop) (w : World) (m : Meta) (j : Nat) (d : D) (v : Value) : Prop :=
 ∃ ys, d = .sl ys ∧ ((m.nest j = none ∧ ys = [] ∧ ∃ A cap, v = .slice A 0 cap) ∨
  ∃ b cap vs e, m.nest j = some b ∧ v = .slice (some ⟨b, 0, none⟩) ys.length cap ∧ w.heap[b]? = some (.cells vs e (0, 0)) ∧ ys.length ≤ cap ∧ ys.length ≤ vs.size ∧
   ∀ (i : Nat) (el : List D), ys[i]? = some el → ∃ d' u, el = [d'] ∧ vs[i]? = some u ∧ RepD imm w d' u)
def RepRow (imm : Nat → Prop) (w : World) (m : Meta) (sz k c0 : Nat) (xs : List (List D)) : Prop :=
 m.sz = sz ∧ m.len = xs.length ∧ m.len ≤ m.cap ∧ (k ≤ xs.length ∧ (c0 < sz → ∀ j, k ≤ j → m.nest j = none)) ∧ (m.blk = none → m.cap = 0) ∧
 (∀ el, el ∈ xs → el.length = sz) ∧
 ∀ b, m.blk = some b → ∃ vs e, w.heap[b]? = some (.cells vs e (0, 0)) ∧ vs.size = m.cap * sz ∧
  ∀ (j : Nat) (el : List D) (i : Nat) (d : D), xs[j]? = some el → el[i]? = some d → ∃ v, vs[j * sz + i]? = some v ∧ (if j < k ∧ i = c0 then RepN imm w m j d v else RepD imm w d v)
def RepObj (c : Cx) (w : World) (m : Meta) : Obj → Prop
 | .box cs => ∃ b vs e, m.blk = some b ∧ w.heap[b]? = some (.cells vs.toArray e (0, 0)) ∧ RepAVs c w cs vs
 | .row sz k c0 xs => RepRow c.imm w m sz k c0 xs
 | .frz sz xs => RepRow c.imm w m sz 0 sz xs ∧ ∀ b, m.blk = some b → c.imm b
 | .dead => True
def Owns (μ : Mu) (os : List Obj) (o : Nat) (l : Option Nat) (b : Nat) : Prop :=
 ∃ m, μ o = some m ∧ match os.getD o .dead, l with
  | .box _, none => m.blk = some b
  | .row _ _ _ _, none => m.blk = some b
  | .row _ k _ _, some j => j < k ∧ m.nest j = some b
  | _, _ => False
structure Store (w0 : World) (c : Cx) (os : List Obj) (w : World) : Prop where
 obj : ∀ o x, os.getD o .dead = x → x ≠ .dead → ∃ m, c.μ o = some m ∧ RepObj c w m x
 uniq : ∀ o l o' l' b, Owns c.μ os o l b → Owns c.μ os o' l' b → o = o' ∧ l = l'
 lt : ∀ o l b, Owns c.μ os o l b → b < w.heap.size ∧ ¬ c.imm b ∧ ¬ c.fix b ∧ ¬ c.oth b
 immlt : ∀ b, c.imm b → b < w.heap.size
 fixlt : ∀ b, c.fix b → b < w0.heap.size
 othlt : ∀ b, c.oth b → b < w.heap.size
 sep : ∀ b, c.imm b → ¬ c.oth b
 frame : Keep c.fix w0 w
 grow : w0.heap.size ≤ w.heap.size
 same : w.os = w0.os ∧ w.tape = w0.tape ∧ w.output = w0.output
theorem RepN.mono {imm imm' : Nat → Prop} {w w' : World} {m : Meta} {j : Nat} {d : D} {v : Value} (h : RepN imm w m j d v) (hk : Keep imm w w') (hs : ∀ b, imm b → imm' b)
  (hb : ∀ b, m.nest j = some b → w'.heap[b]? = w.heap[b]?) : RepN imm' w' m j d v := by
 obtain ⟨ys, hd, h⟩ := h
 refine ⟨ys, hd, h.imp id ?_⟩
 rintro ⟨b, cap, vs, e, hn, hv, hh, hc, hl, hr⟩
 refine ⟨b, cap, vs, e, hn, hv, (hb b hn).trans hh, hc, hl, fun i el hi => ?_⟩
 obtain ⟨d', u, h1, h2, h3⟩ := hr i el hi
 exact ⟨d', u, h1, h2, h3.mono hk hs⟩
theorem RepRow.mono {imm imm' : Nat → Prop} {w w' : World} {m : Meta} {sz k c0 : Nat} {xs : List (List D)} (h : RepRow imm w m sz k c0 xs) (hk : Keep imm w w') (hs : ∀ b, imm b → imm' b)
  (hb : ∀ b, m.blk = some b → w'.heap[b]? = w.heap[b]?) (hn : ∀ j b, j < k → m.nest j = some b → w'.heap[b]? = w.heap[b]?) : RepRow imm' w' m sz k c0 xs := by
 obtain ⟨h1, h2, h3, h4, h5, h6, h7⟩ := h
 refine ⟨h1, h2, h3, h4, h5, h6, fun b hbb => ?_⟩
 obtain ⟨vs, e, hh, hsz, hr⟩ := h7 b hbb
 refine ⟨vs, e, (hb b hbb).trans hh, hsz, fun j el i d hj hi => ?_⟩
 obtain ⟨v, hv, hrep⟩ := hr j el i d hj hi
 refine ⟨v, hv, ?_⟩
 split
 ·rename_i hc
  rw [if_pos hc] at hrep
  exact hrep.mono hk hs fun b h => hn j b hc.1 h
 ·rename_i hc
  rw [if_neg hc] at hrep
  exact hrep.mono hk hs
theorem RepObj.mono {c c' : Cx} {w w' : World} (e : Ext c w c' w') {m : Meta} {x : Obj} (h : RepObj c w m x)
  (hb : ∀ b, m.blk = some b → w'.heap[b]? = w.heap[b]?) (hn : ∀ sz k c0 xs, x = .row sz k c0 xs → ∀ j b, j < k → m.nest j = some b → w'.heap[b]? = w.heap[b]?) : RepObj c' w' m x := by
 cases x with
 | box cs =>
  obtain ⟨b, vs, el, hm, hh, hr⟩ := h
  exact ⟨b, vs, el, hm, (hb b hm).trans hh, hr.mono e⟩
 | row sz k c0 xs => exact RepRow.mono h e.ki e.imm hb (hn sz k c0 xs rfl)
 | frz sz xs => exact ⟨RepRow.mono h.1 e.ki e.imm hb (fun j b hj => absurd hj (Nat.not_lt_zero j)), fun b hbb => e.imm b (h.2 b hbb)⟩
 | dead => trivial
theorem getD_set (os : List Obj) (o p : Nat) (x : Obj) : (os.set o x).getD p .dead = if o = p ∧ o < os.length then x else os.getD p .dead := by
 simp only [List.getD_eq_getElem?_getD, List.getElem?_set]
 by_cases h : o = p
 ·subst h
  by_cases h2 : o < os.length
  ·simp [h2]
  ·simp [h2, List.getElem?_eq_none (Nat.le_of_not_lt h2)]
 ·simp [h]
theorem getD_pad (os : List Obj) (n p : Nat) : (os ++ List.replicate n Obj.dead).getD p .dead = os.getD p .dead := by
 simp only [List.getD_eq_getElem?_getD]
 by_cases h : p < os.length
 ·rw [List.getElem?_append_left h]
 ·rw [List.getElem?_append_right (Nat.le_of_not_lt h), List.getElem?_eq_none (Nat.le_of_not_lt h)]
  by_cases h2 : p - os.length < n
  ·simp [h2]
  ·rw [List.getElem?_eq_none (by simp; omega)]
theorem getD_setAt (os : List Obj) (nb p : Nat) (x : Obj) : (setAt os nb x).getD p .dead = if nb = p then x else os.getD p .dead := by
 unfold setAt
 rw [getD_set, getD_pad]
 by_cases h : nb = p
 ·subst h; simp; intro h; omega
 ·simp [h]
theorem Store.step {w0 : World} {c c' : Cx} {os os' : List Obj} {w w' : World} (h : Store w0 c os w) (chg : Nat → Prop)
  (hfix : c'.fix = c.fix ∧ c'.oth = c.oth) (himm : ∀ b, c.imm b → c'.imm b) (hin : ∀ b, c'.imm b → c.imm b ∨ ∃ o l, Owns c.μ os o l b) (hμ : ∀ o m, c.μ o = some m → ∃ m', c'.μ o = some m' ∧ m.le m')
  (hg : w.heap.size ≤ w'.heap.size) (hsame : w'.os = w.os ∧ w'.tape = w.tape ∧ w'.output = w.output)
  (hk : ∀ b, b < w.heap.size → ¬ chg b → w'.heap[b]? = w.heap[b]?) (hc : ∀ b, chg b → ∃ o l, Owns c.μ os o l b)
  (hobj : Ext c w c' w' → ∀ o x, os'.getD o .dead = x → x ≠ .dead → (∃ m, c'.μ o = some m ∧ RepObj c' w' m x) ∨ (os.getD o .dead = x ∧ c'.μ o = c.μ o ∧ ∀ l b, Owns c.μ os o l b → ¬ chg b))
  (huniq : ∀ o l o' l' b, Owns c'.μ os' o l b → Owns c'.μ os' o' l' b → o = o' ∧ l = l')
  (hlt : ∀ o l b, Owns c'.μ os' o l b → b < w'.heap.size ∧ ¬ c'.imm b ∧ ¬ c'.fix b ∧ ¬ c'.oth b)
  (himmlt : ∀ b, c'.imm b → b < w'.heap.size) (hfl : ∀ b, c.fix b → b < w.heap.size) : Store w0 c' os' w' ∧ Ext c w c' w' := by
 have hnc : ∀ b, (c.fix b ∨ c.imm b ∨ c.oth b) → ¬ chg b := by
  intro b hb hcb
  obtain ⟨o, l, ho⟩ := hc b hcb
  obtain ⟨_, h1, h2, h3⟩ := h.lt o l b ho
  exact hb.elim h2 (fun hb => hb.elim h1 h3)
 have e : Ext c w c' w' := ⟨hfix.1, hfix.2, himm, hμ, fun b hb => hk b (hfl b hb) (hnc b (.inl hb)), fun b hb => hk b (h.immlt b hb) (hnc b (.inr (.inl hb))), fun b hb => hk b (h.othlt b hb) (hnc b (.inr (.inr hb)))⟩
 refine ⟨⟨?_, huniq, hlt, himmlt, by rw [hfix.1]; exact h.fixlt, by rw [hfix.2]; exact fun b hb => Nat.lt_of_lt_of_le (h.othlt b hb) hg, by rw [hfix.2]; exact fun b hb => (hin b hb).elim (h.sep b) (fun ⟨o, l, ho⟩ => (h.lt o l b ho).2.2.2), by rw [hfix.1]; exact h.frame.trans e.kf, Nat.le_trans h.grow hg, ?_⟩, e⟩
 ·intro o x hx hne
  rcases hobj e o x hx hne with h1 | ⟨h1, hmu, h2⟩
  ·exact h1
  ·obtain ⟨m, hm, hr⟩ := h.obj o x h1 hne
   refine ⟨m, hmu.trans hm, hr.mono e ?_ ?_⟩
   ·intro b hb
    cases x with
    | box cs =>
     have ho : Owns c.μ os o none b := ⟨m, hm, by rw [h1]; exact hb⟩
     exact hk b (h.lt _ _ _ ho).1 (h2 _ _ ho)
    | row sz k c0 xs =>
     have ho : Owns c.μ os o none b := ⟨m, hm, by rw [h1]; exact hb⟩
     exact hk b (h.lt _ _ _ ho).1 (h2 _ _ ho)
    | frz sz xs => exact e.ki b (hr.2 b hb)
    | dead => exact absurd rfl hne
   ·intro sz k c0 xs hx' j b hj hn
    subst hx'
    have ho : Owns c.μ os o (some j) b := ⟨m, hm, by rw [h1]; exact ⟨hj, hn⟩⟩
    exact hk b (h.lt _ _ _ ho).1 (h2 _ _ ho)
 ·exact ⟨hsame.1.trans h.same.1, hsame.2.1.trans h.same.2.1, hsame.2.2.trans h.same.2.2⟩
theorem Store.fixlt' {w0 : World} {c : Cx} {os : List Obj} {w : World} (h : Store w0 c os w) (b : Nat) (hb : c.fix b) : b < w.heap.size := Nat.lt_of_lt_of_le (h.fixlt b hb) h.grow
end Go.Gn

namespace Go.Gn
open Go
structure Frm (c : Cx) (w : World) (nt : Nat) (ts : Ts) (a : Act) : Prop where
 dfs : a.defers = []
 sz : a.tmps.size = nt
 at_ : ∀ t, RepAV c w (ts.at t) (a.tmps.getD t undef)
theorem Frm.mono {c c' : Cx} {w w' : World} {nt : Nat} {ts : Ts} {a : Act} (h : Frm c w nt ts a) (e : Ext c w c' w') : Frm c' w' nt ts a := ⟨h.dfs, h.sz, fun t => (h.at_ t).mono e⟩
theorem rep_const {c : Cx} {w : World} {v : Value} {x : AV} (h : constAV v = some x) : RepAV c w x v := by
 unfold constAV at h
 split at h <;> simp at h <;> subst h <;> constructor
theorem rep_X {c : Cx} {w : World} {nt : Nat} {ts : Ts} {a : Act} (hf : Frm c w nt ts a) {x : Operand} {y : X} (h : cX x = some y) : RepAV c w (getX ts y) (a.eval x) := by
 unfold cX at h
 cases x with
 | tmp t => simp at h; subst h; exact hf.at_ t
 | const v =>
  simp at h
  obtain ⟨z, hz, rfl⟩ := h
  exact rep_const hz
 | global g => simp at h
 | func f => simp at h; subst h; exact .fn f [] [] .nil
theorem rep_Xs {c : Cx} {w : World} {nt : Nat} {ts : Ts} {a : Act} (hf : Frm c w nt ts a) : ∀ {xs : List Operand} {ys : List X}, xs.mapM cX = some ys → RepAVs c w (ys.map (getX ts)) (xs.map a.eval)
 | [], ys, h => by simp at h; subst h; exact .nil
 | x :: xs, ys, h => by
  simp only [List.mapM_cons, Option.bind_eq_bind, Option.bind_eq_some_iff, Option.pure_def, Option.some.injEq] at h
  obtain ⟨y, hy, l, hl, rfl⟩ := h
  exact .cons _ _ _ _ (rep_X hf hy) (rep_Xs hf hl)
def Yes (P : Program) (o : Oper) (a : Act) (w : World) (c : Cx) (v : AV) : Prop := ∃ v', (execOp a.eval o).run P w = .ok (.value v') w ∧ RepAV c w v v'
section
variable {P : Program} {c : Cx} {w w0 : World} {nt : Nat} {ts : Ts} {a : Act} {os : List Obj} (hf : Frm c w nt ts a) (hst : Store w0 c os w)
include hf
theorem y_mv {o : Oper} {x : Operand} {y : X} (ho : o.op = .move x ∨ o.op = .assign x) (hx : cX x = some y) : Yes P o a w c (getX ts y) := by
 refine ⟨a.eval x, ?_, rep_X hf hx⟩
 rcases ho with ho | ho <;> simp [execOp, ho]
theorem y_pick {o : Oper} {x y z : Operand} {X' Y' Z' : X} {b : Bool} (ho : o.op = .pick x y z) (hx : cX x = some X') (hy : cX y = some Y') (hz : cX z = some Z') (hb : getX ts X' = .bool b) :
  Yes P o a w c (if b then getX ts Y' else getX ts Z') := by
 have h := rep_X hf hx
 rw [hb] at h
 generalize hv : a.eval x = v at h
 cases h
 refine ⟨if b then a.eval y else a.eval z, ?_, ?_⟩
 ·simp [execOp, ho, hv, asBool]
 ·cases b
  ·exact rep_X hf hz
  ·exact rep_X hf hy
theorem y_not {o : Oper} {t : TypeId} {x : Operand} {X' : X} {b : Bool} (ho : o.op = .unOp .not t x) (hx : cX x = some X') (hb : getX ts X' = .bool b) : Yes P o a w c (.bool (!b)) := by
 have h := rep_X hf hx
 rw [hb] at h
 generalize hv : a.eval x = v at h
 cases h
 exact ⟨.bool (!b), by simp [execOp, ho, hv, Op.unary], .bool _⟩
theorem y_neg {o : Oper} {t : TypeId} {x : Operand} {X' : X} {k : IntKind} {n : Int} (ho : o.op = .unOp .neg t x) (hx : cX x = some X') (hb : getX ts X' = .int k n) : Yes P o a w c (.int k (k.wrap (0 - n))) := by
 have h := rep_X hf hx
 rw [hb] at h
 generalize hv : a.eval x = v at h
 cases h
 exact ⟨.int k (k.wrap (0 - n)), by simp [execOp, ho, hv, Op.unary, Op.intArith], .int _ _⟩
theorem binI_run {op : BinOp} {k : IntKind} {x y : Int} {v : AV} (h : binI op k x y = some v) (hs : op ≠ .shl) (hs' : op ≠ .shr) (t : TypeId) : ∃ v', (binOp op t (.int k x) (.int k y)).run P w = .ok v' w ∧ RepAV c w v v' := by
 cases op <;> simp [binI] at h hs hs' <;> (first | (obtain ⟨h1, h2⟩ := h; subst h2) | subst h) <;>
  refine ⟨_, by simp [binOp, Op.intArith, Op.intDiv, Op.intBits, Op.intCmp, *]; rfl, by constructor⟩
theorem eqGuard_run (op : BinOp) (t : TypeId) (ox oy : Operand) (x' y' : Value) (h1 : ∀ z, x' ≠ .agg z) (h2 : x' ≠ .nilIface) : (eqGuard op t ox oy x' y').run P w = .ok () w := by
 unfold eqGuard
 cases op <;> simp <;> split <;> first | rfl | (exfalso; simp_all; done) | (exact absurd rfl (h1 _)) | (exact absurd rfl h2) | simp
theorem binAV_run {op : BinOp} {x y : AV} {v : AV} (h : binAV op x y = some v) {x' y' : Value} (hx : RepAV c w x x') (hy : RepAV c w y y') (t : TypeId) (ox oy : Operand) :
  ∃ v', (do eqGuard op t ox oy x' y'; binOp op t x' y' : Sem Value).run P w = .ok v' w ∧ RepAV c w v v' := by
 cases x <;> cases y <;> simp only [binAV, reduceCtorEq] at h
 ·rename_i k m k' m'
  cases hx; cases hy
  split at h
  ·rename_i hop
   subst hop
   split at h
   ·rename_i hk
    obtain ⟨rfl, hk⟩ := hk
    simp at h; subst h
    refine ⟨.int .u64 (m.fdiv (2 ^ (Nat.min m'.toNat IntKind.u64.bits))), ?_, .int _ _⟩
    simp [eqGuard_run hf, binOp, Op.shift, Int.not_lt.2 hk]
   ·simp at h
  ·rename_i hop
   split at h
   ·rename_i hk
    subst hk
    have hsl : op ≠ .shl := by rintro rfl; simp [binI] at h
    obtain ⟨v', h1, h2⟩ := binI_run (P := P) (w := w) (c := c) hf h hsl hop t
    exact ⟨v', by simp [eqGuard_run hf, h1], h2⟩
   ·simp at h
 ·rename_i s s'
  cases hx; cases hy
  cases op <;> simp only [binS, reduceCtorEq, Option.some.injEq] at h
  case add =>
   split at h
   ·rename_i hsz
    simp at h; subst h
    refine ⟨.string (s ++ s'), ?_, .str _⟩
    simp [eqGuard_run hf, binOp, Op.stringOp, IntKind.max, IntKind.bits, IntKind.signed]
    omega
   ·simp at h
  case gtr =>
   subst h
   exact ⟨.bool !(Op.bytesLess s.toList s'.toList || s.toList == s'.toList), by simp [eqGuard_run hf, binOp, Op.stringOp], .bool _⟩
  all_goals
   subst h
   refine ⟨_, by simp [eqGuard_run hf, binOp, Op.stringOp]; rfl, by constructor⟩
theorem y_bin {o : Oper} {op : BinOp} {t t' : TypeId} {x y : Operand} {X' Y' : X} {v : AV} (ho : o.op = .binOp op t x y t') (hx : cX x = some X') (hy : cX y = some Y') (h : binAV op (getX ts X') (getX ts Y') = some v) : Yes P o a w c v := by
 obtain ⟨v', h1, h2⟩ := binAV_run (P := P) hf h (rep_X hf hx) (rep_X hf hy) t x y
 refine ⟨v', ?_, h2⟩
 simp only [execOp, ho]
 simp only [Sem.run_bind] at h1 ⊢
 rw [h1]; rfl
omit hf in
theorem equalIn_bool (d : Nat) {t : TypeId} (hu : P.underlying t = some .bool) (p q : Bool) : (Op.equalIn (d + 1) t (.bool p) (.bool q)).run P w = .ok (p == q) w := by
 simp [Op.equalIn, run_underlying hu]
omit hf in
theorem equal_bool {t : TypeId} (hu : P.underlying t = some .bool) (p q : Bool) : (Op.equal t (.bool p) (.bool q)).run P w = .ok (p == q) w := equalIn_bool 9999 hu p q
theorem y_beq {o : Oper} {op : BinOp} {t t' : TypeId} {x y : Operand} {X' Y' : X} {p q : Bool} (hu : P.underlying t = some .bool) (hop : op = .eql ∨ op = .neq) (ho : o.op = .binOp op t x y t') (hx : cX x = some X') (hy : cX y = some Y')
  (hp : getX ts X' = .bool p) (hq : getX ts Y' = .bool q) : Yes P o a w c (.bool (if op = .neq then !(p == q) else p == q)) := by
 have h1 := rep_X hf hx
 have h2 := rep_X hf hy
 rw [hp] at h1; rw [hq] at h2
 generalize hv1 : a.eval x = v1 at h1
 generalize hv2 : a.eval y = v2 at h2
 cases h1; cases h2
 refine ⟨.bool (if op = .neq then !(p == q) else p == q), ?_, .bool _⟩
 rcases hop with rfl | rfl
 ·simp only [execOp, ho, hv1, hv2, Sem.run_bind, eqGuard_run hf .eql t x y (.bool p) (.bool q) (by simp) (by simp), Result.andThen_ok, binOp, equal_bool hu, Sem.run_pure]
  simp
 ·simp only [execOp, ho, hv1, hv2, Sem.run_bind, eqGuard_run hf .neq t x y (.bool p) (.bool q) (by simp) (by simp), Result.andThen_ok, binOp, equal_bool hu, Sem.run_pure]
  simp
end
end Go.Gn

namespace Go.Gn
open Go
section
variable {P : Program} {c : Cx} {w w0 : World} {nt : Nat} {ts : Ts} {a : Act} {os : List Obj} (hf : Frm c w nt ts a)
theorem isAgg_no {t : TypeId} {d : TypeDesc} (h : P.underlying t = some d) (hs : ∀ f, d ≠ .struct f) (ha : ∀ n e, d ≠ .array n e) : (isAgg t).run P w = .ok false w := by
 unfold isAgg
 simp only [Sem.run_bind, run_underlying h, Result.andThen_ok]
 cases d <;> first | rfl | exact absurd rfl (hs _) | exact absurd rfl (ha _ _)
theorem part_run {t : TypeId} {d : TypeDesc} (h : P.underlying t = some d) (hs : ∀ f, d ≠ .struct f) (ha : ∀ n e, d ≠ .array n e) {vs : Array Value} {i : Nat} {v : Value} (hv : vs[i]? = some v) : (part t vs i).run P w = .ok v w := by
 unfold part
 simp only [Sem.run_bind, isAgg_no h hs ha, Result.andThen_ok]
 simp [hv]
theorem eqCells_run (d : Nat) : ∀ (fs : List Field) (i : Nat) (ks : List Nat) (xs ys : List AV) (us vs : List Value) (b : Bool), kindsOf P fs i = some ks → eqCells ks xs ys = some b →
  (∀ j x, xs[j]? = some x → ∃ u, us[i + j]? = some u ∧ RepAV c w x u) → (∀ j x, ys[j]? = some x → ∃ u, vs[i + j]? = some u ∧ RepAV c w x u) → (Op.eqFields (d + 1) us.toArray vs.toArray fs).run P w = .ok b w
 | [], i, ks, xs, ys, us, vs, b, hk, he, hx, hy => by
  simp [kindsOf] at hk; subst hk
  simp [eqCells] at he; subst he
  rfl
 | f :: fs, i, ks, xs, ys, us, vs, b, hk, he, hx, hy => by
  simp only [kindsOf] at hk
  split at hk
  ·rename_i hoff
   simp only [Option.bind_eq_bind, Option.bind_eq_some_iff, Option.pure_def, Option.some.injEq] at hk
   obtain ⟨k, hk1, ks', hk2, rfl⟩ := hk
   match xs, ys, he with
   | x :: xs, y :: ys, he =>
    simp only [eqCells] at he
    obtain ⟨u, hu, hru⟩ := hx 0 x (by simp)
    obtain ⟨v, hv, hrv⟩ := hy 0 y (by simp)
    simp only [Nat.add_zero] at hu hv
    have hu' : us.toArray[f.offset]? = some u := by rw [hoff]; simpa using hu
    have hv' : vs.toArray[f.offset]? = some v := by rw [hoff]; simpa using hv
    have ih := fun b' h => eqCells_run d fs (i + 1) ks' xs ys us vs b' hk2 h (fun j z hz => by have := hx (j + 1) z (by simpa using hz); rwa [show i + 1 + j = i + (j + 1) by omega]) (fun j z hz => by have := hy (j + 1) z (by simpa using hz); rwa [show i + 1 + j = i + (j + 1) by omega])
    unfold kindOf at hk1
    split at hk1
    ·simp at hk1
    ·rename_i hname
     have key : ∀ r : Bool, eqCell k x y = some r → (part f.type us.toArray f.offset).run P w = .ok u w ∧ (part f.type vs.toArray f.offset).run P w = .ok v w ∧ (Op.equalIn (d + 1) f.type u v).run P w = .ok r w := by
      intro r hr
      cases hud : P.underlying f.type with
      | none => simp [hud] at hk1
      | some dd =>
       cases dd <;> simp [hud] at hk1 <;> subst hk1 <;> refine ⟨part_run hud (by simp) (by simp) hu', part_run hud (by simp) (by simp) hv', ?_⟩ <;> cases x <;> cases y <;> simp [eqCell] at hr
       ·cases hru; cases hrv; subst hr; exact equalIn_bool d hud _ _
       ·cases hru; cases hrv; obtain ⟨rfl, rfl⟩ := hr; exact run_equalIn_int w d _ _ _ _ _ hud
       ·cases hru; cases hrv; subst hr; exact run_equalIn_string w d _ _ _ hud
     simp only [Op.eqFields, hname, ne_eq, not_false_eq_true, if_true]
     split at he
     ·simp at he
     ·rename_i hr
      obtain ⟨h1, h2, h3⟩ := key true hr
      simp only [Sem.run_bind, h1, h2, h3, Result.andThen_ok]
      simpa using ih b he
     ·rename_i hr
      simp at he; subst he
      obtain ⟨h1, h2, h3⟩ := key false hr
      simp only [Sem.run_bind, h1, h2, h3, Result.andThen_ok]
      simp
  ·simp at hk
end
end Go.Gn

namespace Go.Gn
open Go
theorem add_none (b o n : Nat) : (⟨b, o, none⟩ : Addr).add n = ⟨b, o + n, none⟩ := by unfold Addr.add; split <;> simp_all
section
variable {P : Program} {c : Cx} {w w0 : World} {nt : Nat} {ts : Ts} {a : Act} {os : List Obj} (hf : Frm c w nt ts a)
include hf
theorem y_eqa {o : Oper} {op : BinOp} {t t' : TypeId} {x y : Operand} {X' Y' : X} {fs : Array Field} {ks : List Nat} {xs ys : List AV} {b : Bool} (hu : P.underlying t = some (.struct fs)) (hg : P.eqGuardType P.depth t = false) (hp : P.stoodInHeld t = false)
  (hk : kindsOf P fs.toList 0 = some ks) (hop : op = .eql ∨ op = .neq) (ho : o.op = .binOp op t x y t') (hx : cX x = some X') (hy : cX y = some Y') (hxs : getX ts X' = .agg xs) (hys : getX ts Y' = .agg ys) (he : eqCells ks xs ys = some b) :
  Yes P o a w c (.bool (if op = .neq then !b else b)) := by
 have h1 := rep_X hf hx
 have h2 := rep_X hf hy
 rw [hxs] at h1; rw [hys] at h2
 generalize hv1 : a.eval x = v1 at h1
 generalize hv2 : a.eval y = v2 at h2
 cases h1 with
 | agg _ us h1 =>
 cases h2 with
 | agg _ vs h2 =>
 have hfs : P.fieldsOf t = fs := by simp [Program.fieldsOf, hu]
 have hrun := run_equalIn_struct (P := P) w 9999 t us.toArray vs.toArray (by rw [hfs]; exact hu) hp
 rw [hfs, eqCells_run 9998 fs.toList 0 ks xs ys us vs b hk he (fun j x hj => by simpa using h1.get j x hj) (fun j x hj => by simpa using h2.get j x hj)] at hrun
 refine ⟨.bool (if op = .neq then !b else b), ?_, .bool _⟩
 rcases hop with rfl | rfl
 ·simp only [execOp, ho, hv1, hv2, Sem.run_bind, run_eqGuard_agg w .eql t x y us.toArray vs.toArray hg, Result.andThen_ok, run_eql_struct, hrun, Sem.run_pure]
  simp
 ·simp only [execOp, ho, hv1, hv2, Sem.run_bind, run_eqGuard_agg w .neq t x y us.toArray vs.toArray hg, Result.andThen_ok, run_neq_struct, hrun, Sem.run_pure]
  simp
theorem y_conv {o : Oper} {s d : TypeId} {k k' : IntKind} {x : Operand} {X' : X} {n : Int} {u : TypeDesc} (hs : P.underlying s = some u) (hd : P.underlying d = some (.int k)) (ho : o.op = .convert s d x) (hx : cX x = some X') (hv : getX ts X' = .int k' n) : Yes P o a w c (.int k (k.wrap n)) := by
 have h1 := rep_X hf hx
 rw [hv] at h1
 generalize hv1 : a.eval x = v1 at h1
 cases h1
 refine ⟨.int k (k.wrap n), ?_, .int _ _⟩
 simp only [execOp, ho, hv1, convert, Sem.run_bind, run_underlying hs, run_underlying hd, Result.andThen_ok]
 cases u <;> simp [Conv.intToInt]
theorem y_cstr {o : Oper} {s d : TypeId} {x : Operand} {X' : X} {q : ByteArray} (hs : P.underlying s = some .string) (hd : P.underlying d = some .string) (ho : o.op = .convert s d x) (hx : cX x = some X') (hv : getX ts X' = .str q) : Yes P o a w c (.str q) := by
 have h1 := rep_X hf hx
 rw [hv] at h1
 generalize hv1 : a.eval x = v1 at h1
 cases h1
 refine ⟨.string q, ?_, .str _⟩
 simp [execOp, ho, hv1, convert, run_underlying hs, run_underlying hd]
theorem y_nilc {o : Oper} {x : Operand} {X' : X} {v : AV} (ho : o.op = .nilCheck x) (hx : cX x = some X') (hv : getX ts X' = v)
  (hp : (∃ o a, v = .ptr o a) ∨ (∃ o j c, v = .rp o j c) ∨ (∃ m cs off, v = .ep m cs off) ∨ (∃ o j i, v = .subp o j i)) : Yes P o a w c v := by
 have h1 := rep_X hf hx
 rw [hv] at h1
 generalize hv1 : a.eval x = v1 at h1
 refine ⟨v1, ?_, h1⟩
 rcases hp with ⟨_, _, rfl⟩ | ⟨_, _, _, rfl⟩ | ⟨_, _, _, rfl⟩ | ⟨_, _, _, rfl⟩ <;> cases h1 <;> simp [execOp, ho, hv1]
theorem fieldAt_run {s : TypeId} {fs : Array Field} {f : Field} {j n b off : Nat} (hu : P.underlying s = some (.struct fs)) (hj : fs[j]? = some f) (hn : size? P f.type = some n) (h0 : n ≠ 0) :
  (Instr.fieldAt s (.pointer (some ⟨b, off, none⟩)) j).run P w = .ok (.pointer (some ⟨b, off + f.offset, none⟩)) w := by
 unfold size? at hn
 simp only [Option.map_eq_some_iff] at hn
 obtain ⟨i, hi, rfl⟩ := hn
 simp [Instr.fieldAt, run_underlying hu, hj, Instr.sureAddr, fieldPlace, sizeOf, typeInfo, hi, h0, add_none]
theorem y_fadr {o : Oper} {s : TypeId} {x : Operand} {j n : Nat} {fs : Array Field} {f : Field} {X' : X} {v v' : AV} (hu : P.underlying s = some (.struct fs)) (hj : fs[j]? = some f) (hn : size? P f.type = some n) (h0 : n ≠ 0)
  (ho : o.op = .fieldAddr s x j) (hx : cX x = some X') (hv : getX ts X' = v)
  (hp : (∃ o a, v = .ptr o a ∧ v' = .ptr o (a + f.offset)) ∨ (∃ o j c, v = .rp o j c ∧ v' = .rp o j (c + f.offset)) ∨ (∃ m cs off, v = .ep m cs off ∧ v' = .ep m cs (off + f.offset))) : Yes P o a w c v' := by
 have h1 := rep_X hf hx
 rw [hv] at h1
 generalize hv1 : a.eval x = v1 at h1
 rcases hp with ⟨q, r, rfl, rfl⟩ | ⟨q, r, z, rfl, rfl⟩ | ⟨m, cs, off, rfl, rfl⟩
 ·cases h1 with
  | ptr _ _ b m hm hb => exact ⟨_, by simp only [execOp, ho, hv1, Sem.run_bind, fieldAt_run hf hu hj hn h0, Result.andThen_ok]; rfl, .ptr _ _ b m hm hb⟩
 ·cases h1 with
  | rp _ _ _ b m hm hb => exact ⟨.pointer (some ⟨b, r * m.sz + (z + f.offset), none⟩), by simp only [execOp, ho, hv1, Sem.run_bind, fieldAt_run hf hu hj hn h0, Result.andThen_ok]; rw [← Nat.add_assoc]; rfl, .rp _ _ _ b m hm hb⟩
 ·cases h1 with
  | ep _ _ _ b ob hb h => exact ⟨.pointer (some ⟨b, ob + (off + f.offset), none⟩), by simp only [execOp, ho, hv1, Sem.run_bind, fieldAt_run hf hu hj hn h0, Result.andThen_ok]; rw [← Nat.add_assoc]; rfl, .ep _ _ _ b ob hb h⟩
theorem y_idx {o : Oper} {t : TypeId} {x i : Operand} {X' I' : X} {s : ByteArray} {k : IntKind} {n : Int} (hu : P.underlying t = some .string) (ho : o.op = .index t x i) (hx : cX x = some X') (hi : cX i = some I') (hs : getX ts X' = .str s) (hn : getX ts I' = .int k n)
  (h : 0 ≤ n ∧ n.toNat < s.size) : Yes P o a w c (.int .u8 ((s[n.toNat]'h.2).toNat : Int)) := by
 have h1 := rep_X hf hx
 have h2 := rep_X hf hi
 rw [hs] at h1; rw [hn] at h2
 generalize hv1 : a.eval x = v1 at h1
 generalize hv2 : a.eval i = v2 at h2
 cases h1; cases h2
 refine ⟨_, ?_, .int _ _⟩
 have hq : s[n.toNat]? = some (s[n.toNat]'h.2) := by simp [h.2]
 simp [execOp, ho, hv1, hv2, Instr.index, asIntOf, run_underlying hu, h.1, hq]
theorem y_ext {o : Oper} {x : Operand} {i : Nat} {X' : X} {vs : List AV} {v : AV} (ho : o.op = .extract x i) (hx : cX x = some X') (hs : getX ts X' = .tup vs) (hv : vs[i]? = some v) : Yes P o a w c v := by
 have h1 := rep_X hf hx
 rw [hs] at h1
 generalize hv1 : a.eval x = v1 at h1
 cases h1 with
 | tup _ us h =>
  obtain ⟨u, hu, hr⟩ := h.get i v hv
  exact ⟨u, by simp [execOp, ho, hv1, Instr.extract, hu], hr⟩
theorem y_mkfn {o : Oper} {f : Nat} {first caps : Array Operand} {cs : List X} (h0 : first.isEmpty = true) (ho : o.op = .makeFunc (.func f) first caps) (hc : caps.toList.mapM cX = some cs) : Yes P o a w c (.fn f (cs.map (getX ts))) := by
 have h := rep_Xs hf hc
 have hfirst : first = #[] := by simpa using h0
 refine ⟨.func (.func f) #[] (caps.toList.map a.eval).toArray, ?_, .fn f _ _ h⟩
 subst hfirst
 simp [execOp, ho, Instr.makeFunc]
 apply Array.ext'; simp
theorem optI_run {x : Option Operand} {X' : Option X} {r : Option Int} (hx : x.mapM cX = some X') (h : optI ts X' = some r) : (x = none ∧ r = none) ∨ ∃ y n k, x = some y ∧ r = some n ∧ a.eval y = .int k n := by
 cases x with
 | none =>
  simp at hx; subst hx
  simp [optI] at h; exact .inl ⟨rfl, h.symm⟩
 | some y =>
  simp only [Option.mapM_some, Option.map_eq_map, Option.map_eq_some_iff] at hx
  obtain ⟨z, hz, rfl⟩ := hx
  have h1 := rep_X hf hz
  right
  cases z with
  | t n =>
   simp only [optI] at h
   simp only [getX] at h1
   generalize ts.at n = av at h h1
   cases av <;> simp at h
   subst h
   generalize hv : a.eval y = v at h1
   cases h1
   exact ⟨y, _, _, rfl, rfl, hv⟩
  | c av =>
   cases av <;> simp [optI] at h
   subst h
   simp only [getX] at h1
   generalize hv : a.eval y = v at h1
   cases h1
   exact ⟨y, _, _, rfl, rfl, hv⟩
theorem bound_run {x : Value} {k : IntKind} {n : Int} {y : Nat} (hx : x = .int k n) (h : 0 ≤ n ∧ n ≤ y) (code : BoundsCode) : (Instr.sliceBound x y code).run P w = .ok n.toNat w := by
 subst hx
 simp [Instr.sliceBound, asIntOf, h]
theorem bounds_run {isS : Bool} {len cap : Nat} {lo hi : Option Operand} {LO HI : Option X} {l h : Option Int} (hlo : lo.mapM cX = some LO) (hhi : hi.mapM cX = some HI) (hl : optI ts LO = some l) (hh : optI ts HI = some h)
  (hb : 0 ≤ l.getD 0 ∧ l.getD 0 ≤ h.getD len ∧ h.getD len ≤ len) (hc : len ≤ cap) : (Instr.sliceBounds isS len cap (lo.map a.eval) (hi.map a.eval) none).run P w = .ok ((l.getD 0).toNat, (h.getD len).toNat, cap) w := by
 unfold Instr.sliceBounds
 rcases optI_run hf hhi hh with ⟨rfl, rfl⟩ | ⟨y, n, k, rfl, rfl, hy⟩ <;> rcases optI_run hf hlo hl with ⟨rfl, rfl⟩ | ⟨z, m, q, rfl, rfl, hz⟩ <;>
  simp only [Option.map_some, Option.map_none, Option.getD_some, Option.getD_none, Sem.run_bind, Sem.run_pure, Result.andThen_ok] at hb ⊢
 ·rfl
 ·rw [bound_run hf hz ⟨by omega, by omega⟩]; rfl
 ·rw [bound_run hf hy ⟨by omega, by omega⟩]; rfl
 ·rw [bound_run hf hy ⟨by omega, by omega⟩]
  simp only [Result.andThen_ok]
  rw [bound_run hf hz ⟨by omega, by omega⟩]; rfl
theorem y_sstr {o : Oper} {t : TypeId} {x : Operand} {lo hi : Option Operand} {X' : X} {LO HI : Option X} {s : ByteArray} {l h : Option Int} {v : AV} (hu : P.underlying t = some .string) (ho : o.op = .slice t x lo hi none) (hx : cX x = some X')
  (hlo : lo.mapM cX = some LO) (hhi : hi.mapM cX = some HI) (hs : getX ts X' = .str s) (hl : optI ts LO = some l) (hh : optI ts HI = some h) (hv : sstrAV s l h = some v) : Yes P o a w c v := by
 have h1 := rep_X hf hx
 rw [hs] at h1
 generalize hv1 : a.eval x = v1 at h1
 cases h1
 unfold sstrAV at hv
 simp only at hv
 split at hv
 ·rename_i hb
  simp at hv; subst hv
  refine ⟨_, ?_, .str _⟩
  simp only [execOp, ho, hv1, Instr.sliceAt, Sem.run_bind, run_underlying hu, Result.andThen_ok, Instr.slice, Option.map_none, Option.isSome_none, Bool.false_eq_true, if_false, Sem.run_pure, bounds_run hf hlo hhi hl hh hb (Nat.le_refl _)]
 ·simp at hv
theorem RepD.view {S : Nat → Prop} {w : World} {xs : List (List D)} {A : Option Addr} {n cap : Nat} (h : RepD S w (.sl xs) (.slice A n cap)) (lo m sz : Nat) (hsz : ∀ el ∈ xs, el.length = sz) (hlo : lo + m ≤ xs.length) :
  n = xs.length ∧ n ≤ cap ∧ RepD S w (.sl (Gn.view xs lo m)) (.slice (if cap = lo then A else A.map (·.add (lo * sz))) m (cap - lo)) := by
 cases h with
 | nil A c => simp at hlo; obtain ⟨rfl, rfl⟩ := hlo; exact ⟨rfl, by simp, by simp [Gn.view]; exact .nil _ _⟩
 | sl xs b off sz' cap f hne hb hc hcell hrep =>
  refine ⟨rfl, hc, ?_⟩
  have hvl : (Gn.view xs lo m).length = m := by simp [Gn.view]; omega
  rcases Nat.eq_zero_or_pos m with rfl | hm
  ·have : Gn.view xs lo 0 = [] := by simp [Gn.view]
   rw [this]; exact .nil _ _
  ·have hget : ∀ j, (Gn.view xs lo m)[j]? = if j < m then xs[lo + j]? else none := by
    intro j
    simp only [Gn.view, List.getElem?_take, List.getElem?_drop]
   have hne' : Gn.view xs lo m ≠ [] := by intro e; rw [e] at hvl; simp at hvl; omega
   have hszeq : sz' = sz := by
    have hx : xs[lo]? = some (xs[lo]'(by omega)) := List.getElem?_eq_getElem (by omega)
    exact ((hcell lo _ hx).1).symm.trans (hsz _ (List.getElem_mem _))
   subst hszeq
   rw [if_neg (by omega)]
   simp only [Option.map_some, add_none]
   have := RepD.sl (S := S) (w := w) (Gn.view xs lo m) b (off + lo * sz') sz' (cap - lo) (fun j i => f (lo + j) i) hne' hb (by omega) (fun j el hj => by
    rw [hget] at hj
    split at hj
    ·obtain ⟨h1, h2⟩ := hcell _ _ hj
     refine ⟨h1, fun i d hi => ?_⟩
     rw [← h2 i d hi]
     congr 1
     rw [Nat.add_mul]; omega
    ·simp at hj) (fun j el i d hj hi => by
    rw [hget] at hj
    split at hj
    ·exact hrep _ _ _ _ hj hi
    ·simp at hj)
   rw [hvl] at this
   exact this
end
end Go.Gn

