/- Part 1 of a proof: an evaluator of the program, proved sound, and what it answers. -/
import Derived.Calls
import Derived.KernelRfl
import Derived.Laws.BytesArg
import Derived.Laws.AppendOwn
import Derived.Laws.CopyRow
import Derived.Laws.Cells
import Derived.Laws.Sem
import Derived.Laws.StructEq
import Derived.Laws.Strings
import Derived.Laws.Slices
import Derived.Laws.Tables
set_option linter.all false
namespace Go.Gn
open Go
inductive D where
  | int (k : IntKind) (n : Int)
  | bool (b : Bool)
  | str (s : ByteArray)
  | sl (xs : List (List D))
  | top
  deriving Inhabited
inductive Md where
  | br | sh
  deriving DecidableEq, Inhabited
inductive AV where
  | int (k : IntKind) (n : Int)
  | bool (b : Bool)
  | str (s : ByteArray)
  | sl (m : Md) (xs : List (List D))
  | nils
  | ep (m : Md) (cs : List D) (off : Nat)
  | ptr (o off : Nat)
  | rp (o j c : Nat)
  | nilp
  | hw (o : Nat)
  | hs (o lo len : Nat)
  | sub (o j len : Nat)
  | subp (o j i : Nat)
  | fn (f : Nat) (caps : List AV)
  | agg (cs : List AV)
  | tup (vs : List AV)
  | un
  | top
  deriving Inhabited
inductive Obj where
  | box (cs : List AV)
  | row (sz k c0 : Nat) (xs : List (List D))
  | frz (sz : Nat) (xs : List (List D))
  | dead
  deriving Inhabited
inductive X where
  | t (n : Nat)
  | c (v : AV)
  deriving Inhabited
inductive I where
  | mv (x : X)
  | pick (c a b : X)
  | bin (op : BinOp) (x y : X)
  | eqa (neg : Bool) (ks : List Nat) (x y : X)
  | beq (neg : Bool) (x y : X)
  | not (x : X)
  | neg (x : X)
  | conv (k : IntKind) (x : X)
  | cstr (x : X)
  | b2s (x : X)
  | alloc (zs : List AV)
  | box (x : X)
  | build (zs : List AV) (parts : List (Nat × Nat × X))
  | mks (sz len : Nat) (zs : List AV) (parts : List (Nat × Nat × X))
  | mksl (sz bytes : Nat) (zs : List AV) (l c : X)
  | load (agg : Bool) (n : Nat) (a : X)
  | store (n : Nat) (a v : X)
  | nilc (x : X)
  | fadr (off : Nat) (x : X)
  | iadr (sz : Nat) (x i : X)
  | idx (x i : X)
  | sstr (x : X) (lo hi : Option X)
  | ssl (sz : Nat) (x : X) (lo hi : Option X)
  | ext (x : X) (i : Nat)
  | mkfn (f : Nat) (caps : List X)
  | call (f : Nat) (args : List X)
  | callv (x : X) (args : List X)
  | len (x : X)
  | lens (x : X)
  | app (sz bytes : Nat) (zs : List AV) (s x : X)
  | copy (sz : Nat) (d s : X)
  | min (xs : List X)
  | max (xs : List X)
  | clear (sz : Nat) (zs : List AV) (x : X)
  deriving Inhabited
structure O where
  dst : Option Nat
  ins : I
  guard : Option (Nat × Bool)
  deps : List Nat
  deriving Inhabited
inductive C where
  | skip
  | reg (draw : Bool) (prs : List (Nat × Nat)) (frs : List Nat) (ops : List O)
  | seq (a b : C)
  | cond (c : X) (a b : C)
  | blk (id : Nat) (c : C)
  | loop (c : C)
  | exit (id : Nat)
  | ret
  deriving Inhabited
def X.tmps : X → List Nat
  | .t n => [n]
  | .c _ => []
def oX : Option X → List X
  | some x => [x]
  | none => []
def psX (ps : List (Nat × Nat × X)) : List X := ps.map fun p => p.2.2
def I.xs : I → List X
  | .mv x | .not x | .neg x | .conv _ x | .cstr x | .b2s x | .box x | .nilc x | .fadr _ x | .ext x _ | .len x | .lens x => [x]
  | .pick a b c => [a, b, c]
  | .bin _ x y | .eqa _ _ x y | .beq _ x y | .iadr _ x y | .idx x y => [x, y]
  | .alloc _ => []
  | .build _ ps | .mks _ _ _ ps => psX ps
  | .mksl _ _ _ l c => [l, c]
  | .load _ _ a => [a]
  | .store _ a v => [a, v]
  | .sstr x lo hi | .ssl _ x lo hi => x :: (oX lo ++ oX hi)
  | .mkfn _ caps => caps
  | .call _ args => args
  | .callv x args => x :: args
  | .app _ _ _ s x => [s, x]
  | .copy _ d s => [d, s]
  | .min xs | .max xs => xs
  | .clear _ _ x => [x]
def I.tmps (i : I) : List Nat := i.xs.flatMap X.tmps
def O.tmps (o : O) : List Nat := o.ins.tmps ++ (match o.guard with | some (g, _) => [g] | none => [])
def I.reads : I → Bool
  | .alloc _ | .box _ | .mks .. | .mksl .. | .store .. | .call .. | .callv .. | .app .. | .copy .. | .clear .. => false
  | _ => true
def I.looks : I → Bool
  | .b2s _ | .load .. | .iadr .. | .ssl .. | .len _ => true
  | _ => false
def I.fresh : I → Bool
  | .alloc _ => true
  | .mks _ _ _ [] => true
  | _ => false
def hasN : List Nat → Nat → Bool
  | [], _ => false
  | x :: l, n => bif Nat.beq x n then true else hasN l n
def clsOf : List O → List (List Nat) → List (List Nat)
  | [], acc => acc
  | o :: os, acc => clsOf os (acc ++ [(List.range acc.length).filter fun j => o.deps.any fun d => Nat.beq d j || hasN (acc.getD d []) j])
def isW (ops : List O) (i : Nat) : Bool := match ops[i]? with
  | some o => !o.ins.reads
  | none => false
def drawFree (ops : List O) : List Nat :=
  let cls := clsOf ops []
  (List.range ops.length).filter fun i => match ops[i]? with
    | some o => o.ins.fresh && (List.range i).any fun m => isW ops m && !hasN (cls.getD i []) m
    | none => false
def isC (frs : List Nat) (ops : List O) (i : Nat) : Bool := isW ops i && !hasN frs i
def need (cls : List (List Nat)) (ws : List Nat) (i p : Nat) : Bool :=
  ws.all (fun m => bif Nat.blt m p then !hasN (cls.getD m []) i else !hasN (cls.getD i []) m) &&
  ws.any fun m => (Nat.ble p m && Nat.blt m i) || (Nat.ble i m && Nat.blt m p)
def drawPairs (ops : List O) : List (Nat × Nat) :=
  let cls := clsOf ops []
  let n := ops.length
  let frs := drawFree ops
  let ws := (List.range n).filter (isC frs ops)
  (List.range n).flatMap fun i => match ops[i]? with
    | some o => if o.ins.looks then
        ((List.range (n + 1)).filter fun p => (Nat.beq p 0 || isC frs ops (p - 1)) && need cls ws i p).map fun p => (i, p)
      else []
    | none => []
def constAV : Value → Option AV
  | .int k n => some (.int k n)
  | .bool b => some (.bool b)
  | .string s => some (.str s)
  | .pointer none => some .nilp
  | .slice none 0 0 => some .nils
  | _ => none
def cX : Operand → Option X
  | .tmp t => some (.t t)
  | .const v => (constAV v).map .c
  | .func f => some (.c (.fn f []))
  | _ => none
def cXs (xs : Array Operand) : Option (List X) := xs.toList.mapM cX
def zs? (P : Program) (t : TypeId) : Option (List AV) := do
  let i ← P.info? t
  let z ← i.zero
  z.cells.toList.mapM constAV
def size? (P : Program) (t : TypeId) : Option Nat := (P.info? t).map (·.size)
def elem? (P : Program) (t : TypeId) : Option TypeId := match P.underlying t with | some (.slice e) => some e | _ => none
def kindOf (P : Program) (f : Field) : Option Nat :=
  if f.name = "_" then none else match P.underlying f.type with
  | some .bool => some 0
  | some (.int _) => some 1
  | some .string => some 2
  | _ => none
def kindsOf (P : Program) : List Field → Nat → Option (List Nat)
  | [], _ => some []
  | f :: fs, i => if f.offset = i then do
      let k ← kindOf P f
      let ks ← kindsOf P fs (i + 1)
      pure (k :: ks)
    else none
def cParts (place : Nat → Option (Nat × Nat)) : List (Nat × Operand) → Option (List (Nat × Nat × X))
  | [] => some []
  | (i, x) :: ps => do
    let q ← place i
    let y ← cX x
    let l ← cParts place ps
    pure ((q.1, q.2, y) :: l)
def isAggD : TypeDesc → Bool
  | .struct _ => true
  | .array _ _ => true
  | _ => false
def cI (P : Program) (op : Op) : Option I :=
  match op with
  | .move x | .assign x => do pure (.mv (← cX x))
  | .pick c a b => do pure (.pick (← cX c) (← cX a) (← cX b))
  | .alloc e => do pure (.alloc (← zs? P e))
  | .box _ x => do pure (.box (← cX x))
  | .build t parts => do
    let zs ← zs? P t
    match P.underlying t with
    | some (.struct fs) => do
      let pl ← fs.toList.mapM fun f => (P.info? f.type).map fun i => (f.offset, i.size)
      let ps ← cParts (pl.toArray[·]?) parts.toList
      pure (.build zs ps)
    | _ => none
  | .buildSlice t len parts => do
    let e ← elem? P t
    let sz ← size? P e
    if len * sz > 2 ^ 24 then none else
    let zs ← zs? P e
    if zs.length ≠ sz then none else
    let ps ← cParts (fun i => some (i * sz, sz)) parts.toList
    pure (.mks sz len zs ps)
  | .makeSlice t l c => do
    let e ← elem? P t
    let i ← P.info? e
    let zs ← zs? P e
    if zs.length ≠ i.size then none else
    pure (.mksl i.size i.bytes zs (← cX l) (← cX c))
  | .load t a => do
    let n ← size? P t
    let u ← P.underlying t
    pure (.load (isAggD u) n (← cX a))
  | .store t a v => do pure (.store (← size? P t) (← cX a) (← cX v))
  | .nilCheck x => do pure (.nilc (← cX x))
  | .fieldAddr s x j =>
    match P.underlying s with
    | some (.struct fs) => do
      let f ← fs[j]?
      let n ← size? P f.type
      if n = 0 then none else pure (.fadr f.offset (← cX x))
    | _ => none
  | .indexAddr t x i => do
    let e ← elem? P t
    pure (.iadr (← size? P e) (← cX x) (← cX i))
  | .index t x i =>
    match P.underlying t with
    | some .string => do pure (.idx (← cX x) (← cX i))
    | _ => none
  | .slice t x lo hi mx =>
    match mx with
    | some _ => none
    | none =>
      match P.underlying t with
      | some .string => do
        let lo ← lo.mapM cX
        let hi ← hi.mapM cX
        pure (.sstr (← cX x) lo hi)
      | some (.slice e) => do
        let lo ← lo.mapM cX
        let hi ← hi.mapM cX
        pure (.ssl (← size? P e) (← cX x) lo hi)
      | _ => none
  | .binOp op t x y _ =>
    match P.underlying t with
    | some (.struct fs) =>
      if !P.eqGuardType P.depth t && !P.stoodInHeld t then do
        let ks ← kindsOf P fs.toList 0
        match op with
        | .eql => do pure (.eqa false ks (← cX x) (← cX y))
        | .neq => do pure (.eqa true ks (← cX x) (← cX y))
        | _ => none
      else none
    | some (.int _) | some .string => do pure (.bin op (← cX x) (← cX y))
    | some .bool => match op with
      | .eql => do pure (.beq false (← cX x) (← cX y))
      | .neq => do pure (.beq true (← cX x) (← cX y))
      | _ => none
    | _ => none
  | .unOp .not _ x => do pure (.not (← cX x))
  | .unOp .neg _ x => do pure (.neg (← cX x))
  | .convert s d x =>
    match P.underlying s, P.underlying d with
    | some (.int _), some (.int k) => do pure (.conv k (← cX x))
    | some .string, some .string => do pure (.cstr (← cX x))
    | some (.slice e), some .string => if (P.underlying e matches some (.int .u8)) then do pure (.b2s (← cX x)) else none
    | _, _ => none
  | .makeFunc (.func f) first caps => if first.isEmpty then do pure (.mkfn f (← cXs caps)) else none
  | .extract x i => do pure (.ext (← cX x) i)
  | .call c =>
    match c.callee with
    | .value (.func f) => do pure (.call f (← cXs c.args))
    | .value x => do pure (.callv (← cX x) (← cXs c.args))
    | .builtin .len => do
      let t ← c.argTypes[0]?
      match P.underlying t, c.args.toList with
      | some .string, [x] => do pure (.lens (← cX x))
      | some (.slice _), [x] => do pure (.len (← cX x))
      | _, _ => none
    | .builtin .append => do
      let t ← c.argTypes[0]?
      let t1 ← c.argTypes[1]?
      let e ← elem? P t
      let i ← P.info? e
      match P.underlying t1, c.args.toList with
      | some (.slice _), [s, x] => do
        let zs ← zs? P e
        if zs.length ≠ i.size then none else
        pure (.app i.size i.bytes zs (← cX s) (← cX x))
      | _, _ => none
    | .builtin .copy => do
      let t ← c.argTypes[0]?
      let e ← elem? P t
      match c.args.toList with
      | [d, s] => do pure (.copy (← size? P e) (← cX d) (← cX s))
      | _ => none
    | .builtin .min => do pure (.min (← cXs c.args))
    | .builtin .max => do pure (.max (← cXs c.args))
    | .builtin .clear => do
      let t ← c.argTypes[0]?
      let e ← elem? P t
      match c.args.toList with
      | [x] => do pure (.clear (← size? P e) (← zs? P e) (← cX x))
      | _ => none
    | _ => none
  | _ => none
def cO (P : Program) (draw : Bool) (ops : Array Oper) (o : Oper) : Option O := do
  let ins ← cI P o.op
  let g ← match o.guard with
    | none => some none
    | some (j, b) => do
      let oj ← ops[j]?
      let d ← oj.dst
      pure (some (d, b))
  pure { dst := o.dst, ins, guard := g, deps := if draw then (o.after.toList.filter (Region.binds .any)).map (·.on) else [] }
def cC (P : Program) : Code → Option C
  | .skip => some .skip
  | .region _ ops draw => do
    let os ← ops.toList.mapM (cO P draw ops)
    pure (.reg draw (if draw then drawPairs os else []) (if draw then drawFree os else []) os)
  | .seq a b => do pure (.seq (← cC P a) (← cC P b))
  | .cond c a b => do pure (.cond (← cX c) (← cC P a) (← cC P b))
  | .block id c => do pure (.blk id (← cC P c))
  | .loop c => do pure (.loop (← cC P c))
  | .exit id => some (.exit id)
  | .ret => some .ret
  | _ => none
def o (d : Nat) (i : I) : O := ⟨some d, i, none, []⟩
def on (i : I) : O := ⟨none, i, none, []⟩
def od (d : Nat) (i : I) (l : List Nat) : O := ⟨some d, i, none, l⟩
def og (d : Nat) (i : I) (g : Nat) (b : Bool) : O := ⟨some d, i, some (g, b), []⟩
def odg (d : Nat) (i : I) (g : Nat) (b : Bool) (l : List Nat) : O := ⟨some d, i, some (g, b), l⟩
def k (n : Int) : X := .c (.int .i64 n)
def kb (b : Bool) : X := .c (.bool b)
end Go.Gn

namespace Go.Gn
open Go
def D.av (m : Md) : D → AV
  | .int k n => .int k n
  | .bool b => .bool b
  | .str s => .str s
  | .sl xs => .sl m xs
  | .top => .top
def AV.toD : AV → Option D
  | .int k n => some (.int k n)
  | .bool b => some (.bool b)
  | .str s => some (.str s)
  | .nils => some (.sl [])
  | .sl .sh xs => some (.sl xs)
  | _ => none
def AV.force {α : Type} (v : AV) (f : AV → α) : α := match v with
  | .int k n => f (.int k n)
  | .bool b => f (.bool b)
  | .str s => f (.str s)
  | .sl m xs => f (.sl m xs)
  | .nils => f .nils
  | .ep m cs off => f (.ep m cs off)
  | .ptr o off => f (.ptr o off)
  | .rp o j c => f (.rp o j c)
  | .nilp => f .nilp
  | .hw o => f (.hw o)
  | .hs o lo len => f (.hs o lo len)
  | .sub o j len => f (.sub o j len)
  | .subp o j i => f (.subp o j i)
  | .fn g caps => f (.fn g caps)
  | .agg cs => f (.agg cs)
  | .tup vs => f (.tup vs)
  | .un => f .un
  | .top => f .top
theorem AV.force_eq {α : Type} (v : AV) (f : AV → α) : v.force f = f v := by cases v <;> rfl
def forceL {α : Type} : List AV → (List AV → α) → α
  | [], f => f []
  | v :: vs, f => v.force fun v => forceL vs fun vs => f (v :: vs)
theorem forceL_eq {α : Type} (l : List AV) (f : List AV → α) : forceL l f = f l := by
  induction l generalizing f with
  | nil => rfl
  | cons v vs ih => simp [forceL, AV.force_eq, ih]
abbrev Ts := List (Nat × AV)
def Ts.at : Ts → Nat → AV
  | [], _ => .top
  | (i, v) :: ts, t => match Nat.beq i t with | true => v | false => Ts.at ts t
def AV.cells : AV → List AV
  | .agg cs => cs
  | v => [v]
def AV.one : AV → Bool
  | .agg _ | .tup _ | .un | .top => false
  | _ => true
def AV.okc : AV → Bool
  | .agg _ => true
  | v => v.one
def cut {α : Type} (cs : List α) (off n : Nat) : Option (List α) := if off + n ≤ cs.length then some ((cs.drop off).take n) else none
def splice {α : Type} (cs : List α) (off : Nat) (vs : List α) : List α := cs.take off ++ vs ++ cs.drop (off + vs.length)
def chunks {α : Type} (sz : Nat) : Nat → List α → List (List α)
  | 0, _ => []
  | n + 1, l => l.take sz :: chunks sz n (l.drop sz)
mutual
def AV.ids : AV → List Nat
  | .ptr o _ | .rp o _ _ | .hw o | .hs o _ _ | .sub o _ _ | .subp o _ _ => [o]
  | .fn _ caps => AV.idsL caps
  | .agg cs => AV.idsL cs
  | .tup vs => AV.idsL vs
  | _ => []
def AV.idsL : List AV → List Nat
  | [] => []
  | v :: vs => v.ids ++ AV.idsL vs
end
def Obj.ids : Obj → List Nat
  | .box cs => AV.idsL cs
  | _ => []
def reach (os : List Obj) : Nat → List Nat → List Nat → List Nat
  | 0, _, done => done
  | _ + 1, [], done => done
  | n + 1, o :: todo, done => if done.contains o then reach os n todo done else reach os n ((os.getD o .dead).ids ++ todo) (done ++ [o])
def posOf (l : List Nat) (o : Nat) (i : Nat := 0) : Option Nat :=
  match l with
  | [] => none
  | x :: l => if x == o then some i else posOf l o (i + 1)
mutual
def AV.ren (ρ : Nat → Option Nat) : AV → AV
  | .ptr o a => match ρ o with | some p => .ptr p a | none => .top
  | .rp o j c => match ρ o with | some p => .rp p j c | none => .top
  | .hw o => match ρ o with | some p => .hw p | none => .top
  | .hs o a b => match ρ o with | some p => .hs p a b | none => .top
  | .sub o a b => match ρ o with | some p => .sub p a b | none => .top
  | .subp o a b => match ρ o with | some p => .subp p a b | none => .top
  | .fn f caps => .fn f (AV.renL ρ caps)
  | .agg cs => .agg (AV.renL ρ cs)
  | .tup vs => .tup (AV.renL ρ vs)
  | v => v
def AV.renL (ρ : Nat → Option Nat) : List AV → List AV
  | [] => []
  | v :: vs => v.ren ρ :: AV.renL ρ vs
end
def Obj.ren (ρ : Nat → Option Nat) : Obj → Obj
  | .box cs => .box (AV.renL ρ cs)
  | o => o
def pickOs (ord : List Nat) (os : List Obj) : List Obj := ord.map fun o => (os.getD o .dead).ren (posOf ord)
mutual
def AV.noBr : AV → Bool
  | .sl .br _ => false
  | .ep .br _ _ => false
  | .fn _ caps => AV.noBrL caps
  | .agg cs => AV.noBrL cs
  | .tup vs => AV.noBrL vs
  | _ => true
def AV.noBrL : List AV → Bool
  | [] => true
  | v :: vs => v.noBr && AV.noBrL vs
end
def Obj.noBr : Obj → Bool
  | .box cs => AV.noBrL cs
  | _ => true
def view {α : Type} (xs : List α) (lo len : Nat) : List α := (xs.drop lo).take len
def lendD (os : List Obj) (sel : List Nat) : AV → Option D
  | .int k n => some (.int k n)
  | .bool b => some (.bool b)
  | .str s => some (.str s)
  | .sl _ xs => some (.sl xs)
  | .nils => some (.sl [])
  | .hw o => if sel.contains o then none else match os.getD o .dead with
    | .row _ _ _ xs => some (.sl xs)
    | .frz _ xs => some (.sl xs)
    | _ => none
  | .hs o lo len => if sel.contains o then none else match os.getD o .dead with
    | .row _ _ _ xs => if lo + len ≤ xs.length then some (.sl (view xs lo len)) else none
    | .frz _ xs => if lo + len ≤ xs.length then some (.sl (view xs lo len)) else none
    | _ => none
  | v => if v.one then some .top else none
def lendDs (os : List Obj) (sel : List Nat) : List AV → Option (List D)
  | [] => some []
  | v :: vs => match lendD os sel v with
    | none => none
    | some d => match lendDs os sel vs with
      | none => none
      | some ds => some (d :: ds)
mutual
def lend (os : List Obj) (sel : List Nat) : AV → Option AV
  | .int k n => some (.int k n)
  | .bool b => some (.bool b)
  | .str s => some (.str s)
  | .nilp => some .nilp
  | .un => some .un
  | .sl _ xs => some (.sl .br xs)
  | .nils => some (.sl .br [])
  | .ep _ cs off => some (.ep .br cs off)
  | .hw o => if sel.contains o then none else match os.getD o .dead with
    | .row _ _ _ xs => some (.sl .br xs)
    | .frz _ xs => some (.sl .br xs)
    | _ => none
  | .hs o lo len => if sel.contains o then none else match os.getD o .dead with
    | .row _ _ _ xs => if lo + len ≤ xs.length then some (.sl .br (view xs lo len)) else none
    | .frz _ xs => if lo + len ≤ xs.length then some (.sl .br (view xs lo len)) else none
    | .box cs => none
    | .dead => none
  | .ptr o off => if sel.contains o then none else match os.getD o .dead with
    | .box cs => match lendDs os sel cs with | some ds => some (.ep .br ds off) | none => none
    | _ => none
  | .rp o j c => if sel.contains o then none else match os.getD o .dead with
    | .row _ _ _ xs => match xs[j]? with | some el => some (.ep .br el c) | none => none
    | .frz _ xs => match xs[j]? with | some el => some (.ep .br el c) | none => none
    | _ => none
  | .sub o j len => if sel.contains o then none else match os.getD o .dead with
    | .row _ k c0 xs => match xs[j]? with
      | some el => match el[c0]? with | some (.sl ys) => if ys.length = len ∧ j < k then some (.sl .br ys) else none | _ => none
      | none => none
    | _ => none
  | .fn f caps => match lendL os sel caps with | some l => some (.fn f l) | none => none
  | .agg cs => match lendL os sel cs with | some l => some (.agg l) | none => none
  | _ => none
def lendL (os : List Obj) (sel : List Nat) : List AV → Option (List AV)
  | [] => some []
  | v :: vs => match lend os sel v with
    | none => none
    | some d => match lendL os sel vs with
      | none => none
      | some ds => some (d :: ds)
end
def D.scrub : D → D
  | .sl _ => .top
  | d => d
def gAV (k c0 j : Nat) (i : Nat) (d : D) (o : Nat) : AV := match d with
  | .sl ys => if i = c0 ∧ j < k then .sub o j ys.length else .sl .sh ys
  | d => d.av .sh
def AV.isHw : AV → Bool
  | .hw _ => true
  | _ => false
def loadAV (agg : Bool) (n : Nat) (a : AV) (os : List Obj) : Option AV :=
  match a with
  | .ep m cs off => if agg then (cut cs off n).map fun l => .agg (l.map (D.av m)) else (cs[off]?).map (D.av m)
  | .ptr o off => match os.getD o .dead with
    | .box cs => if agg then (cut cs off n).map .agg else cs[off]?
    | _ => none
  | .rp o j c => match os.getD o .dead with
    | .row _ k c0 xs => match xs[j]? with
      | some el =>
        if agg then (cut el c n).map fun l => .agg (l.mapIdx fun i d => gAV k c0 j (c + i) d o) else (el[c]?).map fun d => gAV k c0 j c d o
      | none => none
    | .frz _ xs => match xs[j]? with
      | some el => if agg then (cut el c n).map fun l => .agg (l.map (D.av .sh)) else (el[c]?).map (D.av .sh)
      | none => none
    | _ => none
  | .subp o j i => match os.getD o .dead with
    | .row _ k c0 xs => match xs[j]? with
      | some el => match el[c0]? with
        | some (.sl ys) => if agg = true ∨ k ≤ j then none else match ys[i]? with
          | some [d] => some (d.av .sh)
          | _ => none
        | _ => none
      | none => none
    | _ => none
  | _ => none
def freeze (v : AV) (os : List Obj) : Option (D × List Obj) :=
  match v with
  | .hw o => match os.getD o .dead with
    | .row sz _ _ xs => some (.sl xs, os.set o (.frz sz xs))
    | .frz _ xs => some (.sl xs, os)
    | _ => none
  | v => v.toD.map fun d => (d, os)
def freezeL : List AV → List Obj → Option (List D × List Obj)
  | [], os => some ([], os)
  | v :: vs, os => match freeze v os with
    | none => none
    | some (d, os) => match freezeL vs os with
      | none => none
      | some (ds, os) => some (d :: ds, os)
def toDs : List AV → Option (List D)
  | [] => some []
  | v :: vs => match v.toD with
    | none => none
    | some d => match toDs vs with | some ds => some (d :: ds) | none => none
def hwIx : List AV → Option (Nat × Nat)
  | [] => none
  | .hw o :: _ => some (0, o)
  | _ :: vs => match hwIx vs with | some (p, o) => some (p + 1, o) | none => none
def wideIx (own : Bool) (n j k c0 sz : Nat) (v : AV) : Option (Nat × Nat) := match own && Nat.ble 2 n && Nat.blt c0 sz with
  | false => none
  | true => match hwIx v.cells with
    | none => none
    | some po => match Nat.beq j k with | true => some po | false => none
def storeWide (o j k c0 c sz p o' : Nat) (el : List D) (xs : List (List D)) (v : AV) (os : List Obj) : Option (List Obj) := match Nat.beq o' o with
  | true => none
  | false => match Nat.beq c0 (c + p) || Nat.beq k 0 with
    | false => none
    | true => match os.getD o' .dead with
      | .row 1 0 _ ys => match toDs (v.cells.set p (.int .i64 0)) with
        | some ds => some ((os.set o' .dead).set o (.row sz (k + 1) (c + p) (xs.set j (splice el c (ds.set p (.sl ys))))))
        | none => none
      | _ => none
def storeAV (own : Bool) (n : Nat) (a v : AV) (os : List Obj) : Option (List Obj) :=
  if v.cells.length ≠ n then none else
  match a with
  | .ptr o off => match os.getD o .dead with
    | .box cs => if off + n ≤ cs.length ∧ v.cells.all AV.one then some (os.set o (.box (splice cs off v.cells))) else none
    | _ => none
  | .rp o j c => match os.getD o .dead with
    | .row sz k c0 xs => match xs[j]? with
      | some el =>
        if c + n ≤ el.length then
          if j < k ∧ c ≤ c0 ∧ c0 < c + n then none
          else if own ∧ j = k ∧ c = c0 ∧ n = 1 ∧ v.isHw then
            match v with
            | .hw o' => if o' = o then none else match os.getD o' .dead with
              | .row 1 0 _ ys => some ((os.set o' .dead).set o (.row sz (k + 1) c0 (xs.set j (el.set c0 (.sl ys)))))
              | _ => none
            | _ => none
          else match wideIx own n j k c0 sz v with
            | some (p, o') => storeWide o j k c0 c sz p o' el xs v os
            | none => match freezeL v.cells os with
              | none => none
              | some (ds, os') => match os'.getD o .dead with
                | .row sz k c0 xs => some (os'.set o (.row sz k c0 (xs.set j (splice el c ds))))
                | _ => none
        else none
      | none => none
    | _ => none
  | .subp o j i => match os.getD o .dead with
    | .row sz k c0 xs => match xs[j]? with
      | some el => match el[c0]? with
        | some (.sl ys) => match v.toD with
          | some d => if i < ys.length ∧ j < k then some (os.set o (.row sz k c0 (xs.set j (el.set c0 (.sl (ys.set i [d.scrub])))))) else none
          | none => none
        | _ => none
      | none => none
    | _ => none
  | _ => none
def binI (op : BinOp) (k : IntKind) (a b : Int) : Option AV :=
  match op with
  | .add => some (.int k (k.wrap (a + b)))
  | .sub => some (.int k (k.wrap (a - b)))
  | .mul => some (.int k (k.wrap (a * b)))
  | .quo => if b = 0 then none else some (.int k (k.wrap (a.tdiv b)))
  | .rem => if b = 0 then none else some (.int k (a.tmod b))
  | .xor => some (.int k (k.wrap (BitVec.ofInt k.bits a ^^^ BitVec.ofInt k.bits b).toNat))
  | .eql => some (.bool (a == b))
  | .neq => some (.bool (a != b))
  | .lss => some (.bool (decide (a < b)))
  | .leq => some (.bool (decide (a ≤ b)))
  | .gtr => some (.bool (decide (a > b)))
  | .geq => some (.bool (decide (a ≥ b)))
  | _ => none
def binS (op : BinOp) (a b : ByteArray) : Option AV :=
  match op with
  | .add => if a.size + b.size ≤ 9223372036854775807 then some (.str (a ++ b)) else none
  | .eql => some (.bool (a.toList == b.toList))
  | .neq => some (.bool !(a.toList == b.toList))
  | .lss => some (.bool (Op.bytesLess a.toList b.toList))
  | .leq => some (.bool (Op.bytesLess a.toList b.toList || a.toList == b.toList))
  | .gtr => some (.bool !(Op.bytesLess a.toList b.toList || a.toList == b.toList))
  | .geq => some (.bool !(Op.bytesLess a.toList b.toList))
  | _ => none
def binAV (op : BinOp) (x y : AV) : Option AV :=
  match x, y with
  | .int k a, .int k' b =>
    if op = .shr then (if k = .u64 ∧ 0 ≤ b then some (.int k (a.fdiv (2 ^ (Nat.min b.toNat k.bits)))) else none)
    else if k = k' then binI op k a b else none
  | .str a, .str b => binS op a b
  | _, _ => none
def eqCell : Nat → AV → AV → Option Bool
  | 0, .bool a, .bool b => some (a == b)
  | 1, .int k a, .int k' b => if k = k' then some (a == b) else none
  | 2, .str a, .str b => some (a.toList == b.toList)
  | _, _, _ => none
def eqCells : List Nat → List AV → List AV → Option Bool
  | [], _, _ => some true
  | k :: ks, x :: xs, y :: ys => match eqCell k x y with
    | none => none
    | some true => eqCells ks xs ys
    | some false => some false
  | _, _, _ => none
def bytesD : List (List D) → Option (List Int)
  | [] => some []
  | [.int .u8 n] :: xs => match bytesD xs with | some l => some (n :: l) | none => none
  | _ :: _ => none
def minI : List AV → Option AV
  | [.int k a, .int _ b] => some (.int k (if b < a then b else a))
  | _ => none
def maxI : List AV → Option AV
  | [.int k a, .int _ b] => some (.int k (if b > a then b else a))
  | _ => none
def fillAV (cs : List AV) : List (Nat × Nat × AV) → Option (List AV)
  | [] => some cs
  | (off, n, v) :: ps => if v.okc ∧ v.cells.length = n ∧ off + n ≤ cs.length then fillAV (splice cs off v.cells) ps else none
def setAt (os : List Obj) (nb : Nat) (o : Obj) : List Obj := (os ++ List.replicate (nb + 1 - os.length) Obj.dead).set nb o
def szOk (sz : Nat) : List (List D) → Bool
  | [] => true
  | el :: _ => Nat.beq el.length sz
def takeEls (own : Bool) (sz : Nat) (x : AV) (os : List Obj) : Option (List (List D) × Option (Nat × Nat) × List Obj) :=
  match x with
  | .nils => some ([], none, os)
  | .sl .sh ys => if szOk sz ys then some (ys, none, os) else none
  | .sl .br ys => if szOk sz ys then some (ys.map (·.map D.scrub), none, os) else none
  | .hw o => match os.getD o .dead with
    | .row s' 0 _ ys => if s' = sz then some (ys, none, os) else none
    | .row s' (_ + 1) _ ys => if s' = sz then some (ys.map (·.map D.scrub), none, os) else none
    | .frz s' ys => if s' = sz then some (ys, none, os) else none
    | _ => none
  | .hs o lo len => match os.getD o .dead with
    | .row s' 0 _ ys => if s' = sz ∧ lo + len ≤ ys.length then some (view ys lo len, none, os) else none
    | .row s' (_ + 1) _ ys => if s' = sz ∧ lo + len ≤ ys.length then some ((view ys lo len).map (·.map D.scrub), none, os) else none
    | .frz s' ys => if s' = sz ∧ lo + len ≤ ys.length then some (view ys lo len, none, os) else none
    | .box cs =>
      if lo = 0 ∧ cs.length = len * sz then
        match own, len, cs.findIdx? (fun v => match v with | .hw _ => true | _ => false) with
        | true, 1, some c0 => match cs[c0]? with
          | some (.hw o') => if o' = o then none else match os.getD o' .dead with
            | .row 1 0 _ ys => match toDs (cs.set c0 .nils) with
              | some ds => some ([ds.set c0 (.sl ys)], some (c0, o'), os.set o' .dead)
              | none => none
            | _ => none
          | _ => none
        | _, _, _ => match freezeL cs os with
          | some (ds, os') => some (chunks sz len ds, none, os')
          | none => none
      else none
    | .dead => none
  | _ => none
def appAV (own : Bool) (sz bytes nb : Nat) (s x : AV) (os : List Obj) : Option (AV × List Obj) :=
  match takeEls own sz x os with
  | none => none
  | some (ys, c?, os) =>
    if bytes = 0 then none else
    match s with
    | .nils => if ys.length * bytes ≤ 140737488355328 then
        some (.hw nb, setAt os nb (match c? with | some c0 => .row sz 1 c0.1 ys | none => .row sz 0 0 ys)) else none
    | .hw o => match os.getD o .dead with
      | .row s' k c0 xs => if s' = sz ∧ (xs.length + ys.length) * bytes ≤ 140737488355328 then
          match c? with
          | some c1 => if c1.2 ≠ o ∧ k = xs.length ∧ (xs.length = 0 ∨ c0 = c1.1) then some (.hw nb, setAt (os.set o .dead) nb (.row sz (xs.length + 1) c1.1 (xs ++ ys))) else none
          | none => some (.hw nb, setAt (os.set o .dead) nb (.row sz k c0 (xs ++ ys)))
        else none
      | _ => none
    | _ => none
def lenAV (x : AV) (os : List Obj) : Option Int :=
  match x with
  | .sl _ xs => some xs.length
  | .nils => some 0
  | .hw o => match os.getD o .dead with | .row _ _ _ xs => some xs.length | .frz _ xs => some xs.length | _ => none
  | .hs _ _ len => some len
  | .sub _ _ len => some len
  | _ => none
def iadrAV (sz : Nat) (x : AV) (i : Int) (os : List Obj) : Option AV :=
  if i < 0 then none else
  match x with
  | .sl m xs => match xs[i.toNat]? with | some el => if el.length = sz then some (.ep m el 0) else none | none => none
  | .hw o => match os.getD o .dead with
    | .row s' _ _ xs => if i.toNat < xs.length ∧ s' = sz then some (.rp o i.toNat 0) else none
    | .frz s' xs => if i.toNat < xs.length ∧ s' = sz then some (.rp o i.toNat 0) else none
    | _ => none
  | .hs o lo len => if i.toNat < len then match os.getD o .dead with
    | .box _ => if lo = 0 then some (.ptr o (i.toNat * sz)) else none
    | .row s' _ _ _ => if s' = sz then some (.rp o (lo + i.toNat) 0) else none
    | .frz s' _ => if s' = sz then some (.rp o (lo + i.toNat) 0) else none
    | .dead => none else none
  | .sub o j len => if i.toNat < len ∧ sz = 1 then some (.subp o j i.toNat) else none
  | _ => none
def sslAV (sz : Nat) (x : AV) (lo hi : Option Int) (os : List Obj) : Option AV :=
  let l := lo.getD 0
  let go (n : Nat) (f : Nat → Nat → AV) : Option AV :=
    let h := hi.getD n
    if 0 ≤ l ∧ l ≤ h ∧ h ≤ n then some (f l.toNat (h.toNat - l.toNat)) else none
  match x with
  | .sl m xs => if lo.isNone || xs.all (fun el => Nat.beq el.length sz) then go xs.length fun a n => .sl m (view xs a n) else none
  | .nils => go 0 fun _ _ => .nils
  | .hw o => match os.getD o .dead with
    | .row s' _ _ xs => if s' = sz then go xs.length fun a n => .hs o a n else none
    | .frz s' xs => if s' = sz then go xs.length fun a n => .hs o a n else none
    | _ => none
  | .hs o a0 n0 => match os.getD o .dead with
    | .row s' _ _ xs => if s' = sz then go n0 fun a n => .hs o (a0 + a) n else none
    | .frz s' xs => if s' = sz then go n0 fun a n => .hs o (a0 + a) n else none
    | _ => none
  | _ => none
def sstrAV (s : ByteArray) (lo hi : Option Int) : Option AV :=
  let l := lo.getD 0
  let h := hi.getD s.size
  if 0 ≤ l ∧ l ≤ h ∧ h ≤ s.size then some (.str (s.extract l.toNat h.toNat)) else none
def optI (ts : Ts) : Option X → Option (Option Int)
  | none => some none
  | some (.t n) => match ts.at n with | .int _ i => some (some i) | _ => none
  | some (.c (.int _ i)) => some (some i)
  | _ => none
def getX (ts : Ts) : X → AV
  | .t n => ts.at n
  | .c v => v
structure St where
  ts : Ts
  os : List Obj
structure CF where
  nt : Nat
  res : List (Nat × Option (Bool × Nat))
  body : C
  inl : Bool
  byRef : List Bool
  own : Bool
  demC : Bool
  demR : Bool
  live : List Nat
  out : List Nat := []
  shIn : Bool := false
  ext : Option (List AV → List Obj → Option (AV × List Obj)) := none
abbrev CallF := Nat → List AV → List Obj → Option (AV × List Obj)
def Obj.demote : Obj → Obj
  | .row sz _ _ xs => .row sz 0 sz xs
  | o => o
def passArgs (os : List Obj) (sel : List Nat) : List Bool → List AV → Option (List AV)
  | _, [] => some []
  | b, v :: vs =>
    match (if b.headD false then (if v.noBr then some (v.ren (posOf sel)) else none) else lend os sel v) with
    | none => none
    | some v' => match passArgs os sel b.tail vs with
      | none => none
      | some l => some (v' :: l)
def refIds : List Bool → List AV → List Nat
  | _, [] => []
  | b, v :: vs => (if b.headD false then v.ids else []) ++ refIds b.tail vs
def backId (sel : List Nat) (nb m : Nat) (o : Nat) : Option Nat := if o < m then sel[o]? else some (nb + (o - m))
def putBack (sel : List Nat) (news : List Obj) : List Obj → List Obj
  | os => (sel.zip news).foldl (fun os p => os.set p.1 p.2) os
def localCall (call : CallF) (cf : CF) (demC : Bool) (f : Nat) (args : List AV) (nb : Nat) (os : List Obj) : Option (AV × List Obj) :=
  let sel := reach os 40 (refIds cf.byRef args) []
  let so := pickOs sel os
  if so.all Obj.noBr && sel.all (fun o => Nat.blt o os.length) then
    match passArgs os sel cf.byRef args with
    | none => none
    | some args' => match call f args' so with
      | none => none
      | some (r, os') =>
        let ρ := backId sel nb sel.length
        let os'' := os'.map (Obj.ren ρ)
        let os'' := if demC then os''.map Obj.demote else os''
        let base := putBack sel os'' os
        some (r.ren ρ, base ++ (List.replicate (nb - base.length) Obj.dead) ++ os''.drop sel.length)
  else none
def evI (call : CallF) (G : Nat → Option CF) (me : CF) (ins : I) (ts : Ts) (nb : Nat) (os : List Obj) : Option (AV × List Obj) :=
  match ins with
  | .mv x => (getX ts x).force fun v => some (v, os)
  | .pick c a b => match getX ts c with
    | .bool true => (getX ts a).force fun v => some (v, os)
    | .bool false => (getX ts b).force fun v => some (v, os)
    | _ => none
  | .bin op x y => (binAV op (getX ts x) (getX ts y)).map fun v => (v, os)
  | .eqa neg ks x y => match getX ts x, getX ts y with
    | .agg xs, .agg ys => (eqCells ks xs ys).map fun b => (.bool (if neg then !b else b), os)
    | _, _ => none
  | .beq neg x y => match getX ts x, getX ts y with
    | .bool p, .bool q => some (.bool (if neg then !(p == q) else p == q), os)
    | _, _ => none
  | .not x => match getX ts x with | .bool b => some (.bool (!b), os) | _ => none
  | .neg x => match getX ts x with | .int k n => some (.int k (k.wrap (0 - n)), os) | _ => none
  | .conv k x => match getX ts x with | .int _ n => some (.int k (k.wrap n), os) | _ => none
  | .cstr x => match getX ts x with | .str s => some (.str s, os) | _ => none
  | .b2s x =>
    let go (ys : List (List D)) : Option (AV × List Obj) := (bytesD ys).map fun l => (.str (strOfNums l), os)
    match getX ts x with
    | .sl _ ys => go ys
    | .hw o => match os.getD o .dead with | .row _ _ _ ys => go ys | .frz _ ys => go ys | _ => none
    | _ => none
  | .alloc zs => some (.ptr nb 0, setAt os nb (.box zs))
  | .box x => (getX ts x).force fun v => if v.okc then some (.ptr nb 0, setAt os nb (.box v.cells)) else none
  | .build zs ps => (fillAV zs (ps.map fun p => (p.1, p.2.1, getX ts p.2.2))).map fun cs => (.agg cs, os)
  | .mks sz len zs ps =>
    match fillAV ((List.replicate len zs).flatten) (ps.map fun p => (p.1, p.2.1, getX ts p.2.2)) with
    | none => none
    | some cs => if cs.length ≠ len * sz then none else match toDs cs with
      | some ds => some (.hw nb, setAt os nb (.row sz 0 0 (chunks sz len ds)))
      | none => some (.hs nb 0 len, setAt os nb (.box cs))
  | .mksl sz bytes zs l c => match getX ts l, getX ts c, toDs zs with
    | .int _ a, .int _ b, some ds => if 0 ≤ a ∧ a = b ∧ a * bytes ≤ 140737488355328 ∧ a ≤ 9223372036854775807 then some (.hw nb, setAt os nb (.row sz 0 0 (List.replicate a.toNat ds))) else none
    | _, _, _ => none
  | .load agg n a => (loadAV agg n (getX ts a) os).map fun v => (v, os)
  | .store n a v => (storeAV me.own n (getX ts a) (getX ts v) os).map fun os => (.un, os)
  | .nilc x => match getX ts x with
    | .ptr o a => some (.ptr o a, os)
    | .rp o j c => some (.rp o j c, os)
    | .ep m cs off => some (.ep m cs off, os)
    | .subp o j i => some (.subp o j i, os)
    | _ => none
  | .fadr f x => match getX ts x with
    | .ptr o a => some (.ptr o (a + f), os)
    | .rp o j c => some (.rp o j (c + f), os)
    | .ep m cs off => some (.ep m cs (off + f), os)
    | _ => none
  | .iadr sz x i => match getX ts i with | .int _ n => (iadrAV sz (getX ts x) n os).map fun v => (v, os) | _ => none
  | .idx x i => match getX ts x, getX ts i with
    | .str s, .int _ n => if h : 0 ≤ n ∧ n.toNat < s.size then some (.int .u8 ((s[n.toNat]'h.2).toNat : Int), os) else none
    | _, _ => none
  | .sstr x lo hi => match getX ts x, optI ts lo, optI ts hi with
    | .str s, some l, some h => (sstrAV s l h).map fun v => (v, os)
    | _, _, _ => none
  | .ssl sz x lo hi => match optI ts lo, optI ts hi with
    | some l, some h => (sslAV sz (getX ts x) l h os).map fun v => (v, os)
    | _, _ => none
  | .ext x i => match getX ts x with | .tup vs => (vs[i]?).map fun v => (v, os) | _ => none
  | .mkfn f caps => forceL (caps.map (getX ts)) fun l => some (.fn f l, os)
  | .call f args => match G f with
    | none => none
    | some cf => forceL (args.map (getX ts)) fun vs => if cf.inl then call f vs os else localCall call cf me.demC f vs nb os
  | .callv x args => match getX ts x with
    | .fn f caps => match G f with
      | none => none
      | some cf => forceL (args.map (getX ts) ++ caps) fun vs => if cf.inl then call f vs os else localCall call cf me.demC f vs nb os
    | _ => none
  | .lens x => match getX ts x with | .str s => some (.int .i64 s.size, os) | _ => none
  | .len x => (lenAV (getX ts x) os).map fun n => (.int .i64 n, os)
  | .app sz bytes _ s x => appAV me.own sz bytes nb (getX ts s) (getX ts x) os
  | .min xs => (minI (xs.map (getX ts))).map fun v => (v, os)
  | .max xs => (maxI (xs.map (getX ts))).map fun v => (v, os)
  | .copy .. => none
  | .clear .. => none
def putT (ts : Ts) (d : Option Nat) (v : AV) : Ts := match d with | some t => (t, v) :: ts | none => ts
def evO (call : CallF) (G : Nat → Option CF) (me : CF) (o : O) (nb : Nat) (st : St) : Option St :=
  let go : Option St := match evI call G me o.ins st.ts nb st.os with
    | none => none
    | some (v, os) => match Nat.ble st.os.length os.length with
      | true => some ⟨putT st.ts o.dst v, os⟩
      | false => none
  match o.guard with
  | none => go
  | some (t, b) => match st.ts.at t with
    | .bool true => if b then go else some ⟨putT st.ts o.dst .un, st.os⟩
    | .bool false => if b then some ⟨putT st.ts o.dst .un, st.os⟩ else go
    | .un => some ⟨putT st.ts o.dst .un, st.os⟩
    | _ => none
def evOps (call : CallF) (G : Nat → Option CF) (me : CF) : List O → St → Option St
  | [], st => some st
  | o :: os, st => match evO call G me o st.os.length st with
    | none => none
    | some st' => evOps call G me os st'
def nbOf : List Nat → Nat → Nat → Nat → Nat
  | [], _, _, n => n
  | f :: fs, L, i, n => bif Nat.beq f i then L else nbOf fs (L + 1) i n
def evOpsT (call : CallF) (G : Nat → Option CF) (me : CF) (frs : List Nat) (L : Nat) : Nat → List O → St → Option (St × List St)
  | _, [], st => some (st, [st])
  | i, o :: l, st => match evO call G me o (nbOf frs L i st.os.length) st with
    | none => none
    | some st' => match evOpsT call G me frs L (i + 1) l st' with
      | none => none
      | some (sf, tr) => some (sf, st :: tr)
def rdV (me : CF) (ins : I) (ts : Ts) (os : List Obj) : Option AV := (evI (fun _ _ _ => none) (fun _ => none) me ins ts 0 os).map Prod.fst
def osAt (tr : List St) (i : Nat) : List Obj := match tr[i]? with
  | some s => s.os
  | none => []
def Same (me : CF) (ops : List O) (ts : Ts) (tr : List St) : List (Nat × Nat) → Prop
  | [] => True
  | (i, p) :: l => (match ops[i]? with
    | some o => rdV me o.ins ts (osAt tr p) = rdV me o.ins ts (osAt tr i)
    | none => True) ∧ Same me ops ts tr l
def hitsN (L n : Nat) (l : List Nat) : Bool := l.any fun q => Nat.ble L q && Nat.blt q (L + n)
def opIds (ts : Ts) (ins : I) : List Nat := AV.idsL (ins.xs.map (getX ts))
def callSel (G : Nat → Option CF) (ts : Ts) (os : List Obj) : I → Option (List Nat)
  | .call f args => match G f with
    | some cf => if cf.inl then none else some (reach os 40 (refIds cf.byRef (args.map (getX ts))) [] ++ AV.idsL (args.map (getX ts)) ++ (AV.idsL (args.map (getX ts))).flatMap fun o => (os.getD o .dead).ids)
    | none => none
  | .callv x args => match getX ts x with
    | .fn f caps => match G f with
      | some cf => if cf.inl then none else some (reach os 40 (refIds cf.byRef (args.map (getX ts) ++ caps)) [] ++ AV.idsL (args.map (getX ts) ++ caps) ++ (AV.idsL (args.map (getX ts) ++ caps)).flatMap fun o => (os.getD o .dead).ids)
      | none => none
    | _ => none
  | _ => none
def apartOk (G : Nat → Option CF) (ts : Ts) (L n : Nat) (frs : List Nat) : Nat → List O → List St → Bool
  | _, [], _ => true
  | _, _ :: _, [] => false
  | i, o :: l, s :: tr =>
    (match o.ins.looks with
      | true => !hitsN L n (opIds ts o.ins)
      | false => match !o.ins.reads && !hasN frs i && frs.any (fun f => Nat.blt i f) with
        | true => (match callSel G ts s.os o.ins with
          | some sel => !hitsN L n sel
          | none => false)
        | false => true) && apartOk G ts L n frs (i + 1) l tr
open Classical in
noncomputable def evDraw (call : CallF) (G : Nat → Option CF) (me : CF) (prs : List (Nat × Nat)) (frs : List Nat) (ops : List O) (st : St) : Option St :=
  match evOpsT call G me frs st.os.length 0 ops ⟨st.ts, st.os ++ List.replicate frs.length Obj.dead⟩ with
  | none => none
  | some (sf, tr) => match (match frs with | [] => true | _ :: _ => apartOk G sf.ts st.os.length frs.length frs 0 ops tr) with
    | false => none
    | true => match prs with
      | [] => some sf
      | p :: ps => if Same me ops sf.ts tr (p :: ps) then some sf else none
inductive Xt where
  | nrm
  | ext (id : Nat)
  | ret
  deriving DecidableEq
def mask : List Nat → Ts → Ts
  | [], _ => []
  | t :: l, ts => (ts.at t).force fun v => (t, v) :: mask l ts
def Ts.ren (ρ : Nat → Option Nat) : Ts → Ts
  | [] => []
  | (t, v) :: ts => (v.ren ρ).force fun v => (t, v) :: Ts.ren ρ ts
def Ts.ids : Ts → List Nat
  | [] => []
  | (_, v) :: ts => v.ids ++ Ts.ids ts
def norm (m : Nat) (live : List Nat) (st : St) : St :=
  let ts := mask live st.ts
  let ord := reach st.os 400 (((List.range m).flatMap fun o => (st.os.getD o .dead).ids) ++ Ts.ids ts) (List.range m)
  ⟨Ts.ren (posOf ord) ts, pickOs ord st.os⟩
def loopN (head : St → St) : Nat → (St → Option (Xt × St)) → St → Option (Xt × St)
  | 0, _, _ => none
  | n + 1, b, st => match b st with
    | none => none
    | some (.nrm, st') => loopN head n b (head st')
    | some r => some r
def exitN (m : Nat) (out : List Nat) (b : St → Option (Xt × St)) (st : St) : Option (Xt × St) := match b st with
  | none => none
  | some (.nrm, st') => some (.nrm, st')
  | some (x, st') => some (x, norm m out st')
noncomputable def evC (call : CallF) (G : Nat → Option CF) (me : CF) (m n : Nat) : C → St → Option (Xt × St)
  | .skip, st => some (.nrm, st)
  | .reg false _ _ ops, st => match evOps call G me ops st with
    | none => none
    | some st' => some (.nrm, st')
  | .reg true prs frs ops, st => match evDraw call G me prs frs ops st with
    | none => none
    | some st' => some (.nrm, st')
  | .seq a b, st => match evC call G me m n a st with
    | none => none
    | some (.nrm, st') => evC call G me m n b st'
    | some r => some r
  | .cond c a b, st => match getX st.ts c with
    | .bool true => evC call G me m n a st
    | .bool false => evC call G me m n b st
    | _ => none
  | .blk id c, st => match evC call G me m n c st with
    | some (.ext i, st') => if i = id then some (.nrm, st') else some (.ext i, st')
    | r => r
  | .loop c, st => loopN (norm m me.live) n (exitN m me.out (evC call G me m n c)) (norm m me.live st)
  | .exit id, st => some (.ext id, st)
  | .ret, st => some (.ret, st)
def resOf (ts : Ts) (os : List Obj) : List (Nat × Option (Bool × Nat)) → Option (List AV)
  | [] => some []
  | (t, none) :: rs => match resOf ts os rs with | some l => (ts.at t).force fun v => some (v :: l) | none => none
  | (t, some (agg, n)) :: rs => match loadAV agg n (ts.at t) os with
    | none => none
    | some v => match resOf ts os rs with | some l => some (v :: l) | none => none
def start (i : Nat) : List AV → Nat → Ts
  | [], nt => (List.range (nt - i)).map fun j => (i + j, .un)
  | v :: vs, nt => (i, v) :: start (i + 1) vs nt
mutual
def AV.toSh : AV → AV
  | .sl _ xs => .sl .sh xs
  | .ep _ cs off => .ep .sh cs off
  | .fn f caps => .fn f (AV.toShL caps)
  | .agg cs => .agg (AV.toShL cs)
  | .tup vs => .tup (AV.toShL vs)
  | v => v
def AV.toShL : List AV → List AV
  | [] => []
  | v :: vs => v.toSh :: AV.toShL vs
end
mutual
def AV.flat : AV → Bool
  | .sl _ _ | .ep _ _ _ => false
  | .fn _ caps => AV.flatL caps
  | .agg cs => AV.flatL cs
  | .tup vs => AV.flatL vs
  | _ => true
def AV.flatL : List AV → Bool
  | [] => true
  | v :: vs => v.flat && AV.flatL vs
end
def D.flat : D → Bool
  | .sl _ => false
  | _ => true
def D.flatN : D → Bool
  | .sl ys => ys.all fun el => el.all D.flat
  | _ => true
def rowFlat (k c0 : Nat) (xs : List (List D)) : Bool := Nat.ble xs.length k && xs.all fun el => (el.set c0 .top).all D.flat && (match el[c0]? with | some d => d.flatN | none => true)
def Obj.flat : Obj → Bool
  | .box cs => AV.flatL cs
  | .row _ k c0 xs => rowFlat k c0 xs || xs.all fun el => el.all D.flat
  | .frz _ _ => false
  | .dead => true
noncomputable def evCall (G : Nat → Option CF) : Nat → CallF
  | 0, _, _, _ => none
  | n + 1, f, args, os => match G f with
    | none => none
    | some cf => match cf.ext with
      | some g => if cf.inl then none else g args os
      | none =>
      if cf.nt < args.length then none else
      match evC (evCall G n) G cf os.length n cf.body ⟨start 0 (if cf.shIn then AV.toShL args else args) cf.nt, os⟩ with
      | none => none
      | some (.ext _, _) => none
      | some (_, st) => match resOf st.ts st.os cf.res with
        | none => none
        | some vs =>
          let v : AV := match vs with | [v] => v | vs => .tup vs
          if cf.inl then (if cf.shIn then none else some (v, st.os)) else
          let m := os.length
          let ord := reach st.os 400 (((List.range m).flatMap fun o => (st.os.getD o .dead).ids) ++ v.ids) (List.range m)
          let os' := pickOs ord st.os
          let os' := if cf.demR then os'.map Obj.demote else os'
          let v' := v.ren (posOf ord)
          if (v'.noBr && os'.all Obj.noBr) && (!cf.shIn || (!cf.demR && v'.flat && os'.all Obj.flat)) then some (v', os') else none
end Go.Gn

namespace Go.Gn
open Go
def cloneD (m : Md) (xs : List (List D)) : List (List D) := match m with
  | .br => xs.map (·.map D.scrub)
  | .sh => xs
def cloneX (sz bytes c0 : Nat) (args : List AV) (os : List Obj) : Option (AV × List Obj) := match args, os with
  | [.sl m xs], [] => if szOk sz xs ∧ xs.length * bytes ≤ 140737488355328 then some (.hw 0, [.row sz 0 c0 (cloneD m xs)]) else none
  | _, _ => none
def deleteX (sz : Nat) (args : List AV) (os : List Obj) : Option (AV × List Obj) := match args, os with
  | [.hw 0, .int .i64 i, .int .i64 j], [.row s' k c0 xs] => if s' = sz ∧ 0 ≤ i ∧ i ≤ j ∧ j ≤ xs.length ∧ (k = 0 ∨ k = xs.length) then
      some (.hw 1, [.dead, .row sz (k - (j.toNat - i.toNat)) c0 (xs.take i.toNat ++ xs.drop j.toNat)]) else none
  | _, _ => none
def insertX (bytes : Nat) (args : List AV) (os : List Obj) : Option (AV × List Obj) := match args, os with
  | [.hw 0, .int .i64 i, .hs 1 0 1], [.row 2 k c0 xs, .box [.str s, .hw 2], .row 1 0 c ys] =>
      if 0 ≤ i ∧ i ≤ xs.length ∧ k = xs.length ∧ (xs.length = 0 ∨ c0 = 1) ∧ (xs.length + 1) * bytes ≤ 140737488355328 then
        some (.hw 3, [.dead, .box [.str s, .hw 2], .dead, .row 2 (xs.length + 1) 1 (xs.take i.toNat ++ [[.str s, .sl ys]] ++ xs.drop i.toNat)]) else none
  | _, _ => none
def cmpStr (a b : ByteArray) : Int := if Op.bytesLess a.toList b.toList then -1 else if Op.bytesLess b.toList a.toList then 1 else 0
def compareX (args : List AV) (os : List Obj) : Option (AV × List Obj) := match args, os with
  | [.str a, .str b], [] => some (.int .i64 (cmpStr a b), [])
  | _, _ => none
end Go.Gn

namespace Go.Gn
open Go
set_option linter.unusedVariables false
def Keep (S : Nat → Prop) (w w' : World) : Prop := ∀ b, S b → w'.heap[b]? = w.heap[b]?
theorem Keep.refl (S : Nat → Prop) (w : World) : Keep S w w := fun _ _ => rfl
theorem Keep.trans {S : Nat → Prop} {w w1 w2 : World} (h : Keep S w w1) (h' : Keep S w1 w2) : Keep S w w2 := fun b hb => (h' b hb).trans (h b hb)
theorem Keep.sub {S S' : Nat → Prop} {w w' : World} (h : Keep S w w') (hs : ∀ b, S' b → S b) : Keep S' w w' := fun b hb => h b (hs b hb)
def cellAt (w : World) (b i : Nat) : Option Value := w.cell? ⟨b, i, none⟩
theorem cellAt_keep {S : Nat → Prop} {w w' : World} (h : Keep S w w') {b : Nat} (hb : S b) (i : Nat) : cellAt w' b i = cellAt w b i := by
  unfold cellAt World.cell?
  rw [h b hb]
inductive RepD (S : Nat → Prop) (w : World) : D → Value → Prop
  | int (k : IntKind) (n : Int) : RepD S w (.int k n) (.int k n)
  | bool (b : Bool) : RepD S w (.bool b) (.bool b)
  | str (s : ByteArray) : RepD S w (.str s) (.string s)
  | nil (A : Option Addr) (c : Nat) : RepD S w (.sl []) (.slice A 0 c)
  | sl (xs : List (List D)) (b off sz cap : Nat) (f : Nat → Nat → Value) (hne : xs ≠ []) (hb : S b) (hc : xs.length ≤ cap)
      (hcell : ∀ j el, xs[j]? = some el → el.length = sz ∧ ∀ i d, el[i]? = some d → cellAt w b (off + j * sz + i) = some (f j i))
      (hrep : ∀ j el i d, xs[j]? = some el → el[i]? = some d → RepD S w d (f j i)) : RepD S w (.sl xs) (.slice (some ⟨b, off, none⟩) xs.length cap)
  | top (v : Value) (h : v.oneCell' = true) : RepD S w .top v
theorem RepD.mono {S S' : Nat → Prop} {w w' : World} {d : D} {v : Value} (h : RepD S w d v) (hk : Keep S w w') (hs : ∀ b, S b → S' b) : RepD S' w' d v := by
  induction h with
  | int k n => exact .int k n
  | bool b => exact .bool b
  | str s => exact .str s
  | nil A c => exact .nil A c
  | sl xs b off sz cap f hne hb hc hcell hrep ih =>
    exact .sl xs b off sz cap f hne (hs b hb) hc (fun j el hj => ⟨(hcell j el hj).1, fun i d hi => (cellAt_keep hk hb _).trans ((hcell j el hj).2 i d hi)⟩) (fun j el i d hj hi => ih j el i d hj hi)
  | top v h => exact .top v h
theorem RepD.one {S : Nat → Prop} {w : World} {d : D} {v : Value} (h : RepD S w d v) : v.oneCell' = true := by cases h <;> first | rfl | assumption
structure Meta where
  blk : Option Nat
  sz : Nat
  len : Nat
  cap : Nat
  nest : Nat → Option Nat
structure Meta.le (m m' : Meta) : Prop where
  blk : m'.blk = m.blk
  sz : m'.sz = m.sz
  len : m'.len = m.len
  cap : m'.cap = m.cap
  nest : ∀ j b, m.nest j = some b → m'.nest j = some b
theorem Meta.le_refl (m : Meta) : m.le m := ⟨rfl, rfl, rfl, rfl, fun _ _ h => h⟩
theorem Meta.le.trans {m m1 m2 : Meta} (h : m.le m1) (h' : m1.le m2) : m.le m2 :=
  ⟨h'.blk.trans h.blk, h'.sz.trans h.sz, h'.len.trans h.len, h'.cap.trans h.cap, fun j b hb => h'.nest j b (h.nest j b hb)⟩
abbrev Mu := Nat → Option Meta
def mk0 (b : Nat) : Addr := ⟨b, 0, none⟩
structure Cx where
  fix : Nat → Prop
  imm : Nat → Prop
  oth : Nat → Prop
  μ : Mu
def Cx.set (c : Cx) : Md → Nat → Prop
  | .br => c.fix
  | .sh => c.imm
mutual
inductive RepAV (c : Cx) (w : World) : AV → Value → Prop
  | int (k : IntKind) (n : Int) : RepAV c w (.int k n) (.int k n)
  | bool (b : Bool) : RepAV c w (.bool b) (.bool b)
  | str (s : ByteArray) : RepAV c w (.str s) (.string s)
  | sl (m : Md) (xs : List (List D)) (v : Value) (h : RepD (c.set m) w (.sl xs) v) : RepAV c w (.sl m xs) v
  | nils : RepAV c w .nils (.slice none 0 0)
  | ep (m : Md) (cs : List D) (off b o : Nat) (hb : c.set m b) (h : ∀ i d, cs[i]? = some d → ∃ u, cellAt w b (o + i) = some u ∧ RepD (c.set m) w d u) : RepAV c w (.ep m cs off) (.pointer (some ⟨b, o + off, none⟩))
  | ptr (o off b : Nat) (m : Meta) (hm : c.μ o = some m) (hb : m.blk = some b) : RepAV c w (.ptr o off) (.pointer (some ⟨b, off, none⟩))
  | rp (o j q b : Nat) (m : Meta) (hm : c.μ o = some m) (hb : m.blk = some b) : RepAV c w (.rp o j q) (.pointer (some ⟨b, j * m.sz + q, none⟩))
  | nilp : RepAV c w .nilp (.pointer none)
  | hw (o : Nat) (m : Meta) (hm : c.μ o = some m) : RepAV c w (.hw o) (.slice (m.blk.map mk0) m.len m.cap)
  | hs (o lo len : Nat) (A : Option Addr) (cap : Nat) (m : Meta) (hm : c.μ o = some m) (hc : len ≤ cap) (h : 0 < len → ∃ b, m.blk = some b ∧ A = some ⟨b, lo * m.sz, none⟩) : RepAV c w (.hs o lo len) (.slice A len cap)
  | sub (o j len : Nat) (A : Option Addr) (cap : Nat) (m : Meta) (hm : c.μ o = some m) (hc : len ≤ cap) (h : 0 < len → ∃ b, m.nest j = some b ∧ A = some ⟨b, 0, none⟩) : RepAV c w (.sub o j len) (.slice A len cap)
  | subp (o j i b : Nat) (m : Meta) (hm : c.μ o = some m) (hb : m.nest j = some b) : RepAV c w (.subp o j i) (.pointer (some ⟨b, i, none⟩))
  | fn (f : Nat) (caps : List AV) (vs : List Value) (h : RepAVs c w caps vs) : RepAV c w (.fn f caps) (.func (.func f) #[] vs.toArray)
  | agg (cs : List AV) (vs : List Value) (h : RepAVs c w cs vs) : RepAV c w (.agg cs) (.agg vs.toArray)
  | tup (cs : List AV) (vs : List Value) (h : RepAVs c w cs vs) : RepAV c w (.tup cs) (.tuple vs.toArray)
  | un : RepAV c w .un undef
  | top (v : Value) : RepAV c w .top v
inductive RepAVs (c : Cx) (w : World) : List AV → List Value → Prop
  | nil : RepAVs c w [] []
  | cons (a : AV) (v : Value) (aS : List AV) (vs : List Value) (h : RepAV c w a v) (hs : RepAVs c w aS vs) : RepAVs c w (a :: aS) (v :: vs)
end
structure Ext (c : Cx) (w : World) (c' : Cx) (w' : World) : Prop where
  fix : c'.fix = c.fix
  oth : c'.oth = c.oth
  imm : ∀ b, c.imm b → c'.imm b
  μ : ∀ o m, c.μ o = some m → ∃ m', c'.μ o = some m' ∧ m.le m'
  kf : Keep c.fix w w'
  ki : Keep c.imm w w'
  ko : Keep c.oth w w'
theorem Ext.refl (c : Cx) (w : World) : Ext c w c w := ⟨rfl, rfl, fun _ h => h, fun _ m h => ⟨m, h, m.le_refl⟩, Keep.refl _ _, Keep.refl _ _, Keep.refl _ _⟩
theorem Ext.trans {c c1 c2 : Cx} {w w1 w2 : World} (h : Ext c w c1 w1) (h' : Ext c1 w1 c2 w2) : Ext c w c2 w2 :=
  ⟨h'.fix.trans h.fix, h'.oth.trans h.oth, fun b hb => h'.imm b (h.imm b hb), fun o m hm => let ⟨m1, h1, l1⟩ := h.μ o m hm; let ⟨m2, h2, l2⟩ := h'.μ o m1 h1; ⟨m2, h2, l1.trans l2⟩, h.kf.trans (by rw [← h.fix]; exact h'.kf), h.ki.trans (h'.ki.sub h.imm), h.ko.trans (by rw [← h.oth]; exact h'.ko)⟩
theorem Ext.set {c c' : Cx} {w w' : World} (h : Ext c w c' w') (m : Md) (b : Nat) (hb : c.set m b) : c'.set m b := by
  cases m
  · show c'.fix b; rw [h.fix]; exact hb
  · exact h.imm b hb
theorem Ext.keep {c c' : Cx} {w w' : World} (h : Ext c w c' w') (m : Md) : Keep (c.set m) w w' := by
  cases m
  · exact h.kf
  · exact h.ki
mutual
theorem RepAV.mono {c c' : Cx} {w w' : World} (e : Ext c w c' w') : ∀ {a : AV} {v : Value}, RepAV c w a v → RepAV c' w' a v
  | _, _, .int k n => .int k n
  | _, _, .bool b => .bool b
  | _, _, .str s => .str s
  | _, _, .sl m xs v h => .sl m xs v (h.mono (e.keep m) (e.set m))
  | _, _, .nils => .nils
  | _, _, .ep m cs off b o hb h => .ep m cs off b o (e.set m b hb) fun i d hd =>
    let ⟨u, hu, hr⟩ := h i d hd
    ⟨u, (cellAt_keep (e.keep m) hb _).trans hu, hr.mono (e.keep m) (e.set m)⟩
  | _, _, .ptr o off b m hm hb => let ⟨m', hm', l⟩ := e.μ _ _ hm; .ptr o off b m' hm' (l.blk.trans hb)
  | _, _, .rp o j q b m hm hb => let ⟨m', hm', l⟩ := e.μ _ _ hm; by rw [← l.sz]; exact .rp o j q b m' hm' (l.blk.trans hb)
  | _, _, .nilp => .nilp
  | _, _, .hw o m hm => let ⟨m', hm', l⟩ := e.μ _ _ hm; by rw [← l.blk, ← l.len, ← l.cap]; exact .hw o m' hm'
  | _, _, .hs o lo len A cap m hm hc h => let ⟨m', hm', l⟩ := e.μ _ _ hm; .hs o lo len A cap m' hm' hc (by rw [l.blk, l.sz]; exact h)
  | _, _, .sub o j len A cap m hm hc h => let ⟨m', hm', l⟩ := e.μ _ _ hm; .sub o j len A cap m' hm' hc (fun hp => let ⟨b, h1, h2⟩ := h hp; ⟨b, l.nest _ _ h1, h2⟩)
  | _, _, .subp o j i b m hm hb => let ⟨m', hm', l⟩ := e.μ _ _ hm; .subp o j i b m' hm' (l.nest _ _ hb)
  | _, _, .fn f caps vs h => .fn f caps vs (h.mono e)
  | _, _, .agg cs vs h => .agg cs vs (h.mono e)
  | _, _, .tup cs vs h => .tup cs vs (h.mono e)
  | _, _, .un => .un
  | _, _, .top v => .top v
theorem RepAVs.mono {c c' : Cx} {w w' : World} (e : Ext c w c' w') : ∀ {aS : List AV} {vs : List Value}, RepAVs c w aS vs → RepAVs c' w' aS vs
  | _, _, .nil => .nil
  | _, _, .cons a v aS vs h hs => .cons a v aS vs (h.mono e) (hs.mono e)
end
theorem RepAVs.length {c : Cx} {w : World} : ∀ {aS : List AV} {vs : List Value}, RepAVs c w aS vs → aS.length = vs.length
  | _, _, .nil => rfl
  | _, _, .cons a v aS vs h hs => by simp [hs.length]
theorem RepAVs.get {c : Cx} {w : World} : ∀ {aS : List AV} {vs : List Value}, RepAVs c w aS vs → ∀ (i : Nat) (a : AV), aS[i]? = some a → ∃ v, vs[i]? = some v ∧ RepAV c w a v
  | _, _, .nil, i, a, h => by simp at h
  | _, _, .cons x v aS vs h hs, 0, a, e => by simp at e; subst e; exact ⟨v, by simp, h⟩
  | _, _, .cons x v aS vs h hs, i + 1, a, e => by simpa using hs.get i a (by simpa using e)
theorem RepAVs.of_get {c : Cx} {w : World} : ∀ {aS : List AV} {vs : List Value}, aS.length = vs.length → (∀ (i : Nat) (a : AV), aS[i]? = some a → ∃ v, vs[i]? = some v ∧ RepAV c w a v) → RepAVs c w aS vs
  | [], [], _, _ => .nil
  | a :: aS, v :: vs, hl, h => .cons a v aS vs (by obtain ⟨u, hu, hr⟩ := h 0 a (by simp); simp at hu; subst hu; exact hr)
      (RepAVs.of_get (by simpa using hl) fun i x hx => by have := h (i + 1) x (by simpa using hx); simpa using this)
  | [], _ :: _, hl, _ => by simp at hl
  | _ :: _, [], hl, _ => by simp at hl
def RepN (imm : Nat → Prop) (w : World) (m : Meta) (j : Nat) (d : D) (v : Value) : Prop :=
  ∃ ys, d = .sl ys ∧ ((m.nest j = none ∧ ys = [] ∧ ∃ A cap, v = .slice A 0 cap) ∨
    ∃ b cap vs e, m.nest j = some b ∧ v = .slice (some ⟨b, 0, none⟩) ys.length cap ∧ w.heap[b]? = some (.cells vs e (0, 0)) ∧ ys.length ≤ cap ∧ ys.length ≤ vs.size ∧
      ∀ (i : Nat) (el : List D), ys[i]? = some el → ∃ d' u, el = [d'] ∧ vs[i]? = some u ∧ RepD imm w d' u)
def RepRow (imm : Nat → Prop) (w : World) (m : Meta) (sz k c0 : Nat) (xs : List (List D)) : Prop :=
  m.sz = sz ∧ m.len = xs.length ∧ m.len ≤ m.cap ∧ (k ≤ xs.length ∧ (c0 < sz → ∀ j, k ≤ j → m.nest j = none)) ∧ (m.blk = none → m.cap = 0) ∧
  (∀ el, el ∈ xs → el.length = sz) ∧
  ∀ b, m.blk = some b → ∃ vs e, w.heap[b]? = some (.cells vs e (0, 0)) ∧ vs.size = m.cap * sz ∧
    ∀ (j : Nat) (el : List D) (i : Nat) (d : D), xs[j]? = some el → el[i]? = some d → ∃ v, vs[j * sz + i]? = some v ∧ (if j < k ∧ i = c0 then RepN imm w m j d v else RepD imm w d v)
def RepObj (c : Cx) (w : World) (m : Meta) : Obj → Prop
  | .box cs => ∃ b vs e, m.blk = some b ∧ w.heap[b]? = some (.cells vs.toArray e (0, 0)) ∧ RepAVs c w cs vs
  | .row sz k c0 xs => RepRow c.imm w m sz k c0 xs
  | .frz sz xs => RepRow c.imm w m sz 0 sz xs ∧ ∀ b, m.blk = some b → c.imm b
  | .dead => True
def Owns (μ : Mu) (os : List Obj) (o : Nat) (l : Option Nat) (b : Nat) : Prop :=
  ∃ m, μ o = some m ∧ match os.getD o .dead, l with
    | .box _, none => m.blk = some b
    | .row _ _ _ _, none => m.blk = some b
    | .row _ k _ _, some j => j < k ∧ m.nest j = some b
    | _, _ => False
structure Store (w0 : World) (c : Cx) (os : List Obj) (w : World) : Prop where
  obj : ∀ o x, os.getD o .dead = x → x ≠ .dead → ∃ m, c.μ o = some m ∧ RepObj c w m x
  uniq : ∀ o l o' l' b, Owns c.μ os o l b → Owns c.μ os o' l' b → o = o' ∧ l = l'
  lt : ∀ o l b, Owns c.μ os o l b → b < w.heap.size ∧ ¬ c.imm b ∧ ¬ c.fix b ∧ ¬ c.oth b
  immlt : ∀ b, c.imm b → b < w.heap.size
  fixlt : ∀ b, c.fix b → b < w0.heap.size
  othlt : ∀ b, c.oth b → b < w.heap.size
  sep : ∀ b, c.imm b → ¬ c.oth b
  frame : Keep c.fix w0 w
  grow : w0.heap.size ≤ w.heap.size
  same : w.os = w0.os ∧ w.tape = w0.tape ∧ w.output = w0.output
theorem RepN.mono {imm imm' : Nat → Prop} {w w' : World} {m : Meta} {j : Nat} {d : D} {v : Value} (h : RepN imm w m j d v) (hk : Keep imm w w') (hs : ∀ b, imm b → imm' b)
    (hb : ∀ b, m.nest j = some b → w'.heap[b]? = w.heap[b]?) : RepN imm' w' m j d v := by
  obtain ⟨ys, hd, h⟩ := h
  refine ⟨ys, hd, h.imp id ?_⟩
  rintro ⟨b, cap, vs, e, hn, hv, hh, hc, hl, hr⟩
  refine ⟨b, cap, vs, e, hn, hv, (hb b hn).trans hh, hc, hl, fun i el hi => ?_⟩
  obtain ⟨d', u, h1, h2, h3⟩ := hr i el hi
  exact ⟨d', u, h1, h2, h3.mono hk hs⟩
theorem RepRow.mono {imm imm' : Nat → Prop} {w w' : World} {m : Meta} {sz k c0 : Nat} {xs : List (List D)} (h : RepRow imm w m sz k c0 xs) (hk : Keep imm w w') (hs : ∀ b, imm b → imm' b)
    (hb : ∀ b, m.blk = some b → w'.heap[b]? = w.heap[b]?) (hn : ∀ j b, j < k → m.nest j = some b → w'.heap[b]? = w.heap[b]?) : RepRow imm' w' m sz k c0 xs := by
  obtain ⟨h1, h2, h3, h4, h5, h6, h7⟩ := h
  refine ⟨h1, h2, h3, h4, h5, h6, fun b hbb => ?_⟩
  obtain ⟨vs, e, hh, hsz, hr⟩ := h7 b hbb
  refine ⟨vs, e, (hb b hbb).trans hh, hsz, fun j el i d hj hi => ?_⟩
  obtain ⟨v, hv, hrep⟩ := hr j el i d hj hi
  refine ⟨v, hv, ?_⟩
  split
  · rename_i hc
    rw [if_pos hc] at hrep
    exact hrep.mono hk hs fun b h => hn j b hc.1 h
  · rename_i hc
    rw [if_neg hc] at hrep
    exact hrep.mono hk hs
theorem RepObj.mono {c c' : Cx} {w w' : World} (e : Ext c w c' w') {m : Meta} {x : Obj} (h : RepObj c w m x)
    (hb : ∀ b, m.blk = some b → w'.heap[b]? = w.heap[b]?) (hn : ∀ sz k c0 xs, x = .row sz k c0 xs → ∀ j b, j < k → m.nest j = some b → w'.heap[b]? = w.heap[b]?) : RepObj c' w' m x := by
  cases x with
  | box cs =>
    obtain ⟨b, vs, el, hm, hh, hr⟩ := h
    exact ⟨b, vs, el, hm, (hb b hm).trans hh, hr.mono e⟩
  | row sz k c0 xs => exact RepRow.mono h e.ki e.imm hb (hn sz k c0 xs rfl)
  | frz sz xs => exact ⟨RepRow.mono h.1 e.ki e.imm hb (fun j b hj => absurd hj (Nat.not_lt_zero j)), fun b hbb => e.imm b (h.2 b hbb)⟩
  | dead => trivial
theorem getD_set (os : List Obj) (o p : Nat) (x : Obj) : (os.set o x).getD p .dead = if o = p ∧ o < os.length then x else os.getD p .dead := by
  simp only [List.getD_eq_getElem?_getD, List.getElem?_set]
  by_cases h : o = p
  · subst h
    by_cases h2 : o < os.length
    · simp [h2]
    · simp [h2, List.getElem?_eq_none (Nat.le_of_not_lt h2)]
  · simp [h]
theorem getD_pad (os : List Obj) (n p : Nat) : (os ++ List.replicate n Obj.dead).getD p .dead = os.getD p .dead := by
  simp only [List.getD_eq_getElem?_getD]
  by_cases h : p < os.length
  · rw [List.getElem?_append_left h]
  · rw [List.getElem?_append_right (Nat.le_of_not_lt h), List.getElem?_eq_none (Nat.le_of_not_lt h)]
    by_cases h2 : p - os.length < n
    · simp [h2]
    · rw [List.getElem?_eq_none (by simp; omega)]
theorem getD_setAt (os : List Obj) (nb p : Nat) (x : Obj) : (setAt os nb x).getD p .dead = if nb = p then x else os.getD p .dead := by
  unfold setAt
  rw [getD_set, getD_pad]
  by_cases h : nb = p
  · subst h; simp; intro h; omega
  · simp [h]
theorem Store.step {w0 : World} {c c' : Cx} {os os' : List Obj} {w w' : World} (h : Store w0 c os w) (chg : Nat → Prop)
    (hfix : c'.fix = c.fix ∧ c'.oth = c.oth) (himm : ∀ b, c.imm b → c'.imm b) (hin : ∀ b, c'.imm b → c.imm b ∨ ∃ o l, Owns c.μ os o l b) (hμ : ∀ o m, c.μ o = some m → ∃ m', c'.μ o = some m' ∧ m.le m')
    (hg : w.heap.size ≤ w'.heap.size) (hsame : w'.os = w.os ∧ w'.tape = w.tape ∧ w'.output = w.output)
    (hk : ∀ b, b < w.heap.size → ¬ chg b → w'.heap[b]? = w.heap[b]?) (hc : ∀ b, chg b → ∃ o l, Owns c.μ os o l b)
    (hobj : Ext c w c' w' → ∀ o x, os'.getD o .dead = x → x ≠ .dead → (∃ m, c'.μ o = some m ∧ RepObj c' w' m x) ∨ (os.getD o .dead = x ∧ c'.μ o = c.μ o ∧ ∀ l b, Owns c.μ os o l b → ¬ chg b))
    (huniq : ∀ o l o' l' b, Owns c'.μ os' o l b → Owns c'.μ os' o' l' b → o = o' ∧ l = l')
    (hlt : ∀ o l b, Owns c'.μ os' o l b → b < w'.heap.size ∧ ¬ c'.imm b ∧ ¬ c'.fix b ∧ ¬ c'.oth b)
    (himmlt : ∀ b, c'.imm b → b < w'.heap.size) (hfl : ∀ b, c.fix b → b < w.heap.size) : Store w0 c' os' w' ∧ Ext c w c' w' := by
  have hnc : ∀ b, (c.fix b ∨ c.imm b ∨ c.oth b) → ¬ chg b := by
    intro b hb hcb
    obtain ⟨o, l, ho⟩ := hc b hcb
    obtain ⟨_, h1, h2, h3⟩ := h.lt o l b ho
    exact hb.elim h2 (fun hb => hb.elim h1 h3)
  have e : Ext c w c' w' := ⟨hfix.1, hfix.2, himm, hμ, fun b hb => hk b (hfl b hb) (hnc b (.inl hb)), fun b hb => hk b (h.immlt b hb) (hnc b (.inr (.inl hb))), fun b hb => hk b (h.othlt b hb) (hnc b (.inr (.inr hb)))⟩
  refine ⟨⟨?_, huniq, hlt, himmlt, by rw [hfix.1]; exact h.fixlt, by rw [hfix.2]; exact fun b hb => Nat.lt_of_lt_of_le (h.othlt b hb) hg, by rw [hfix.2]; exact fun b hb => (hin b hb).elim (h.sep b) (fun ⟨o, l, ho⟩ => (h.lt o l b ho).2.2.2), by rw [hfix.1]; exact h.frame.trans e.kf, Nat.le_trans h.grow hg, ?_⟩, e⟩
  · intro o x hx hne
    rcases hobj e o x hx hne with h1 | ⟨h1, hmu, h2⟩
    · exact h1
    · obtain ⟨m, hm, hr⟩ := h.obj o x h1 hne
      refine ⟨m, hmu.trans hm, hr.mono e ?_ ?_⟩
      · intro b hb
        cases x with
        | box cs =>
          have ho : Owns c.μ os o none b := ⟨m, hm, by rw [h1]; exact hb⟩
          exact hk b (h.lt _ _ _ ho).1 (h2 _ _ ho)
        | row sz k c0 xs =>
          have ho : Owns c.μ os o none b := ⟨m, hm, by rw [h1]; exact hb⟩
          exact hk b (h.lt _ _ _ ho).1 (h2 _ _ ho)
        | frz sz xs => exact e.ki b (hr.2 b hb)
        | dead => exact absurd rfl hne
      · intro sz k c0 xs hx' j b hj hn
        subst hx'
        have ho : Owns c.μ os o (some j) b := ⟨m, hm, by rw [h1]; exact ⟨hj, hn⟩⟩
        exact hk b (h.lt _ _ _ ho).1 (h2 _ _ ho)
  · exact ⟨hsame.1.trans h.same.1, hsame.2.1.trans h.same.2.1, hsame.2.2.trans h.same.2.2⟩
theorem Store.fixlt' {w0 : World} {c : Cx} {os : List Obj} {w : World} (h : Store w0 c os w) (b : Nat) (hb : c.fix b) : b < w.heap.size := Nat.lt_of_lt_of_le (h.fixlt b hb) h.grow
end Go.Gn

namespace Go.Gn
open Go
set_option linter.unusedVariables false
set_option linter.unusedSimpArgs false
structure Frm (c : Cx) (w : World) (nt : Nat) (ts : Ts) (a : Act) : Prop where
  dfs : a.defers = []
  sz : a.tmps.size = nt
  at_ : ∀ t, RepAV c w (ts.at t) (a.tmps.getD t undef)
theorem Frm.mono {c c' : Cx} {w w' : World} {nt : Nat} {ts : Ts} {a : Act} (h : Frm c w nt ts a) (e : Ext c w c' w') : Frm c' w' nt ts a := ⟨h.dfs, h.sz, fun t => (h.at_ t).mono e⟩
theorem rep_const {c : Cx} {w : World} {v : Value} {x : AV} (h : constAV v = some x) : RepAV c w x v := by
  unfold constAV at h
  split at h <;> simp at h <;> subst h <;> constructor
theorem rep_X {c : Cx} {w : World} {nt : Nat} {ts : Ts} {a : Act} (hf : Frm c w nt ts a) {x : Operand} {y : X} (h : cX x = some y) : RepAV c w (getX ts y) (a.eval x) := by
  unfold cX at h
  cases x with
  | tmp t => simp at h; subst h; exact hf.at_ t
  | const v =>
    simp at h
    obtain ⟨z, hz, rfl⟩ := h
    exact rep_const hz
  | global g => simp at h
  | func f => simp at h; subst h; exact .fn f [] [] .nil
theorem rep_Xs {c : Cx} {w : World} {nt : Nat} {ts : Ts} {a : Act} (hf : Frm c w nt ts a) : ∀ {xs : List Operand} {ys : List X}, xs.mapM cX = some ys → RepAVs c w (ys.map (getX ts)) (xs.map a.eval)
  | [], ys, h => by simp at h; subst h; exact .nil
  | x :: xs, ys, h => by
    simp only [List.mapM_cons, Option.bind_eq_bind, Option.bind_eq_some_iff, Option.pure_def, Option.some.injEq] at h
    obtain ⟨y, hy, l, hl, rfl⟩ := h
    exact .cons _ _ _ _ (rep_X hf hy) (rep_Xs hf hl)
def Yes (P : Program) (o : Oper) (a : Act) (w : World) (c : Cx) (v : AV) : Prop := ∃ v', (execOp a.eval o).run P w = .ok (.value v') w ∧ RepAV c w v v'
section
variable {P : Program} {c : Cx} {w w0 : World} {nt : Nat} {ts : Ts} {a : Act} {os : List Obj} (hf : Frm c w nt ts a) (hst : Store w0 c os w)
include hf
theorem y_mv {o : Oper} {x : Operand} {y : X} (ho : o.op = .move x ∨ o.op = .assign x) (hx : cX x = some y) : Yes P o a w c (getX ts y) := by
  refine ⟨a.eval x, ?_, rep_X hf hx⟩
  rcases ho with ho | ho <;> simp [execOp, ho]
theorem y_pick {o : Oper} {x y z : Operand} {X' Y' Z' : X} {b : Bool} (ho : o.op = .pick x y z) (hx : cX x = some X') (hy : cX y = some Y') (hz : cX z = some Z') (hb : getX ts X' = .bool b) :
    Yes P o a w c (if b then getX ts Y' else getX ts Z') := by
  have h := rep_X hf hx
  rw [hb] at h
  generalize hv : a.eval x = v at h
  cases h
  refine ⟨if b then a.eval y else a.eval z, ?_, ?_⟩
  · simp [execOp, ho, hv, asBool]
  · cases b
    · exact rep_X hf hz
    · exact rep_X hf hy
theorem y_not {o : Oper} {t : TypeId} {x : Operand} {X' : X} {b : Bool} (ho : o.op = .unOp .not t x) (hx : cX x = some X') (hb : getX ts X' = .bool b) : Yes P o a w c (.bool (!b)) := by
  have h := rep_X hf hx
  rw [hb] at h
  generalize hv : a.eval x = v at h
  cases h
  exact ⟨.bool (!b), by simp [execOp, ho, hv, Op.unary], .bool _⟩
theorem y_neg {o : Oper} {t : TypeId} {x : Operand} {X' : X} {k : IntKind} {n : Int} (ho : o.op = .unOp .neg t x) (hx : cX x = some X') (hb : getX ts X' = .int k n) : Yes P o a w c (.int k (k.wrap (0 - n))) := by
  have h := rep_X hf hx
  rw [hb] at h
  generalize hv : a.eval x = v at h
  cases h
  exact ⟨.int k (k.wrap (0 - n)), by simp [execOp, ho, hv, Op.unary, Op.intArith], .int _ _⟩
theorem binI_run {op : BinOp} {k : IntKind} {x y : Int} {v : AV} (h : binI op k x y = some v) (hs : op ≠ .shl) (hs' : op ≠ .shr) (t : TypeId) : ∃ v', (binOp op t (.int k x) (.int k y)).run P w = .ok v' w ∧ RepAV c w v v' := by
  cases op <;> simp [binI] at h hs hs' <;> (first | (obtain ⟨h1, h2⟩ := h; subst h2) | subst h) <;>
    refine ⟨_, by simp [binOp, Op.intArith, Op.intDiv, Op.intBits, Op.intCmp, *]; rfl, by constructor⟩
theorem eqGuard_run (op : BinOp) (t : TypeId) (ox oy : Operand) (x' y' : Value) (h1 : ∀ z, x' ≠ .agg z) (h2 : x' ≠ .nilIface) : (eqGuard op t ox oy x' y').run P w = .ok () w := by
  unfold eqGuard
  cases op <;> simp <;> split <;> first | rfl | (exfalso; simp_all; done) | (exact absurd rfl (h1 _)) | (exact absurd rfl h2) | simp
theorem binAV_run {op : BinOp} {x y : AV} {v : AV} (h : binAV op x y = some v) {x' y' : Value} (hx : RepAV c w x x') (hy : RepAV c w y y') (t : TypeId) (ox oy : Operand) :
    ∃ v', (do eqGuard op t ox oy x' y'; binOp op t x' y' : Sem Value).run P w = .ok v' w ∧ RepAV c w v v' := by
  cases x <;> cases y <;> simp only [binAV, reduceCtorEq] at h
  · rename_i k m k' m'
    cases hx; cases hy
    split at h
    · rename_i hop
      subst hop
      split at h
      · rename_i hk
        obtain ⟨rfl, hk⟩ := hk
        simp at h; subst h
        refine ⟨.int .u64 (m.fdiv (2 ^ (Nat.min m'.toNat IntKind.u64.bits))), ?_, .int _ _⟩
        simp [eqGuard_run hf, binOp, Op.shift, Int.not_lt.2 hk]
      · simp at h
    · rename_i hop
      split at h
      · rename_i hk
        subst hk
        have hsl : op ≠ .shl := by rintro rfl; simp [binI] at h
        obtain ⟨v', h1, h2⟩ := binI_run (P := P) (w := w) (c := c) hf h hsl hop t
        exact ⟨v', by simp [eqGuard_run hf, h1], h2⟩
      · simp at h
  · rename_i s s'
    cases hx; cases hy
    cases op <;> simp only [binS, reduceCtorEq, Option.some.injEq] at h
    case add =>
      split at h
      · rename_i hsz
        simp at h; subst h
        refine ⟨.string (s ++ s'), ?_, .str _⟩
        simp [eqGuard_run hf, binOp, Op.stringOp, IntKind.max, IntKind.bits, IntKind.signed]
        omega
      · simp at h
    case gtr =>
      subst h
      exact ⟨.bool !(Op.bytesLess s.toList s'.toList || s.toList == s'.toList), by simp [eqGuard_run hf, binOp, Op.stringOp], .bool _⟩
    all_goals
      subst h
      refine ⟨_, by simp [eqGuard_run hf, binOp, Op.stringOp]; rfl, by constructor⟩
theorem y_bin {o : Oper} {op : BinOp} {t t' : TypeId} {x y : Operand} {X' Y' : X} {v : AV} (ho : o.op = .binOp op t x y t') (hx : cX x = some X') (hy : cX y = some Y') (h : binAV op (getX ts X') (getX ts Y') = some v) : Yes P o a w c v := by
  obtain ⟨v', h1, h2⟩ := binAV_run (P := P) hf h (rep_X hf hx) (rep_X hf hy) t x y
  refine ⟨v', ?_, h2⟩
  simp only [execOp, ho]
  simp only [Sem.run_bind] at h1 ⊢
  rw [h1]; rfl
omit hf in
theorem equalIn_bool (d : Nat) {t : TypeId} (hu : P.underlying t = some .bool) (p q : Bool) : (Op.equalIn (d + 1) t (.bool p) (.bool q)).run P w = .ok (p == q) w := by
  simp [Op.equalIn, run_underlying hu]
omit hf in
theorem equal_bool {t : TypeId} (hu : P.underlying t = some .bool) (p q : Bool) : (Op.equal t (.bool p) (.bool q)).run P w = .ok (p == q) w := equalIn_bool 9999 hu p q
theorem y_beq {o : Oper} {op : BinOp} {t t' : TypeId} {x y : Operand} {X' Y' : X} {p q : Bool} (hu : P.underlying t = some .bool) (hop : op = .eql ∨ op = .neq) (ho : o.op = .binOp op t x y t') (hx : cX x = some X') (hy : cX y = some Y')
    (hp : getX ts X' = .bool p) (hq : getX ts Y' = .bool q) : Yes P o a w c (.bool (if op = .neq then !(p == q) else p == q)) := by
  have h1 := rep_X hf hx
  have h2 := rep_X hf hy
  rw [hp] at h1; rw [hq] at h2
  generalize hv1 : a.eval x = v1 at h1
  generalize hv2 : a.eval y = v2 at h2
  cases h1; cases h2
  refine ⟨.bool (if op = .neq then !(p == q) else p == q), ?_, .bool _⟩
  rcases hop with rfl | rfl
  · simp only [execOp, ho, hv1, hv2, Sem.run_bind, eqGuard_run hf .eql t x y (.bool p) (.bool q) (by simp) (by simp), Result.andThen_ok, binOp, equal_bool hu, Sem.run_pure]
    simp
  · simp only [execOp, ho, hv1, hv2, Sem.run_bind, eqGuard_run hf .neq t x y (.bool p) (.bool q) (by simp) (by simp), Result.andThen_ok, binOp, equal_bool hu, Sem.run_pure]
    simp
end
end Go.Gn

namespace Go.Gn
open Go
set_option linter.unusedVariables false
set_option linter.unusedSimpArgs false
set_option linter.unusedSectionVars false
section
variable {P : Program} {c : Cx} {w w0 : World} {nt : Nat} {ts : Ts} {a : Act} {os : List Obj} (hf : Frm c w nt ts a)
theorem isAgg_no {t : TypeId} {d : TypeDesc} (h : P.underlying t = some d) (hs : ∀ f, d ≠ .struct f) (ha : ∀ n e, d ≠ .array n e) : (isAgg t).run P w = .ok false w := by
  unfold isAgg
  simp only [Sem.run_bind, run_underlying h, Result.andThen_ok]
  cases d <;> first | rfl | exact absurd rfl (hs _) | exact absurd rfl (ha _ _)
theorem part_run {t : TypeId} {d : TypeDesc} (h : P.underlying t = some d) (hs : ∀ f, d ≠ .struct f) (ha : ∀ n e, d ≠ .array n e) {vs : Array Value} {i : Nat} {v : Value} (hv : vs[i]? = some v) : (part t vs i).run P w = .ok v w := by
  unfold part
  simp only [Sem.run_bind, isAgg_no h hs ha, Result.andThen_ok]
  simp [hv]
theorem eqCells_run (d : Nat) : ∀ (fs : List Field) (i : Nat) (ks : List Nat) (xs ys : List AV) (us vs : List Value) (b : Bool), kindsOf P fs i = some ks → eqCells ks xs ys = some b →
    (∀ j x, xs[j]? = some x → ∃ u, us[i + j]? = some u ∧ RepAV c w x u) → (∀ j x, ys[j]? = some x → ∃ u, vs[i + j]? = some u ∧ RepAV c w x u) → (Op.eqFields (d + 1) us.toArray vs.toArray fs).run P w = .ok b w
  | [], i, ks, xs, ys, us, vs, b, hk, he, hx, hy => by
    simp [kindsOf] at hk; subst hk
    simp [eqCells] at he; subst he
    rfl
  | f :: fs, i, ks, xs, ys, us, vs, b, hk, he, hx, hy => by
    simp only [kindsOf] at hk
    split at hk
    · rename_i hoff
      simp only [Option.bind_eq_bind, Option.bind_eq_some_iff, Option.pure_def, Option.some.injEq] at hk
      obtain ⟨k, hk1, ks', hk2, rfl⟩ := hk
      match xs, ys, he with
      | x :: xs, y :: ys, he =>
        simp only [eqCells] at he
        obtain ⟨u, hu, hru⟩ := hx 0 x (by simp)
        obtain ⟨v, hv, hrv⟩ := hy 0 y (by simp)
        simp only [Nat.add_zero] at hu hv
        have hu' : us.toArray[f.offset]? = some u := by rw [hoff]; simpa using hu
        have hv' : vs.toArray[f.offset]? = some v := by rw [hoff]; simpa using hv
        have ih := fun b' h => eqCells_run d fs (i + 1) ks' xs ys us vs b' hk2 h (fun j z hz => by have := hx (j + 1) z (by simpa using hz); rwa [show i + 1 + j = i + (j + 1) by omega]) (fun j z hz => by have := hy (j + 1) z (by simpa using hz); rwa [show i + 1 + j = i + (j + 1) by omega])
        unfold kindOf at hk1
        split at hk1
        · simp at hk1
        · rename_i hname
          have key : ∀ r : Bool, eqCell k x y = some r → (part f.type us.toArray f.offset).run P w = .ok u w ∧ (part f.type vs.toArray f.offset).run P w = .ok v w ∧ (Op.equalIn (d + 1) f.type u v).run P w = .ok r w := by
            intro r hr
            cases hud : P.underlying f.type with
            | none => simp [hud] at hk1
            | some dd =>
              cases dd <;> simp [hud] at hk1 <;> subst hk1 <;> refine ⟨part_run hud (by simp) (by simp) hu', part_run hud (by simp) (by simp) hv', ?_⟩ <;> cases x <;> cases y <;> simp [eqCell] at hr
              · cases hru; cases hrv; subst hr; exact equalIn_bool d hud _ _
              · cases hru; cases hrv; obtain ⟨rfl, rfl⟩ := hr; exact run_equalIn_int w d _ _ _ _ _ hud
              · cases hru; cases hrv; subst hr; exact run_equalIn_string w d _ _ _ hud
          simp only [Op.eqFields, hname, ne_eq, not_false_eq_true, if_true]
          split at he
          · simp at he
          · rename_i hr
            obtain ⟨h1, h2, h3⟩ := key true hr
            simp only [Sem.run_bind, h1, h2, h3, Result.andThen_ok]
            simpa using ih b he
          · rename_i hr
            simp at he; subst he
            obtain ⟨h1, h2, h3⟩ := key false hr
            simp only [Sem.run_bind, h1, h2, h3, Result.andThen_ok]
            simp
    · simp at hk
end
end Go.Gn

namespace Go.Gn
open Go
set_option linter.unusedVariables false
set_option linter.unusedSimpArgs false
set_option linter.unusedSectionVars false
theorem add_none (b o n : Nat) : (⟨b, o, none⟩ : Addr).add n = ⟨b, o + n, none⟩ := by unfold Addr.add; split <;> simp_all
section
variable {P : Program} {c : Cx} {w w0 : World} {nt : Nat} {ts : Ts} {a : Act} {os : List Obj} (hf : Frm c w nt ts a)
include hf
theorem y_eqa {o : Oper} {op : BinOp} {t t' : TypeId} {x y : Operand} {X' Y' : X} {fs : Array Field} {ks : List Nat} {xs ys : List AV} {b : Bool} (hu : P.underlying t = some (.struct fs)) (hg : P.eqGuardType P.depth t = false) (hp : P.stoodInHeld t = false)
    (hk : kindsOf P fs.toList 0 = some ks) (hop : op = .eql ∨ op = .neq) (ho : o.op = .binOp op t x y t') (hx : cX x = some X') (hy : cX y = some Y') (hxs : getX ts X' = .agg xs) (hys : getX ts Y' = .agg ys) (he : eqCells ks xs ys = some b) :
    Yes P o a w c (.bool (if op = .neq then !b else b)) := by
  have h1 := rep_X hf hx
  have h2 := rep_X hf hy
  rw [hxs] at h1; rw [hys] at h2
  generalize hv1 : a.eval x = v1 at h1
  generalize hv2 : a.eval y = v2 at h2
  cases h1 with
  | agg _ us h1 =>
  cases h2 with
  | agg _ vs h2 =>
  have hfs : P.fieldsOf t = fs := by simp [Program.fieldsOf, hu]
  have hrun := run_equalIn_struct (P := P) w 9999 t us.toArray vs.toArray (by rw [hfs]; exact hu) hp
  rw [hfs, eqCells_run 9998 fs.toList 0 ks xs ys us vs b hk he (fun j x hj => by simpa using h1.get j x hj) (fun j x hj => by simpa using h2.get j x hj)] at hrun
  refine ⟨.bool (if op = .neq then !b else b), ?_, .bool _⟩
  rcases hop with rfl | rfl
  · simp only [execOp, ho, hv1, hv2, Sem.run_bind, run_eqGuard_agg w .eql t x y us.toArray vs.toArray hg, Result.andThen_ok, run_eql_struct, hrun, Sem.run_pure]
    simp
  · simp only [execOp, ho, hv1, hv2, Sem.run_bind, run_eqGuard_agg w .neq t x y us.toArray vs.toArray hg, Result.andThen_ok, run_neq_struct, hrun, Sem.run_pure]
    simp
theorem y_conv {o : Oper} {s d : TypeId} {k k' : IntKind} {x : Operand} {X' : X} {n : Int} {u : TypeDesc} (hs : P.underlying s = some u) (hd : P.underlying d = some (.int k)) (ho : o.op = .convert s d x) (hx : cX x = some X') (hv : getX ts X' = .int k' n) : Yes P o a w c (.int k (k.wrap n)) := by
  have h1 := rep_X hf hx
  rw [hv] at h1
  generalize hv1 : a.eval x = v1 at h1
  cases h1
  refine ⟨.int k (k.wrap n), ?_, .int _ _⟩
  simp only [execOp, ho, hv1, convert, Sem.run_bind, run_underlying hs, run_underlying hd, Result.andThen_ok]
  cases u <;> simp [Conv.intToInt]
theorem y_cstr {o : Oper} {s d : TypeId} {x : Operand} {X' : X} {q : ByteArray} (hs : P.underlying s = some .string) (hd : P.underlying d = some .string) (ho : o.op = .convert s d x) (hx : cX x = some X') (hv : getX ts X' = .str q) : Yes P o a w c (.str q) := by
  have h1 := rep_X hf hx
  rw [hv] at h1
  generalize hv1 : a.eval x = v1 at h1
  cases h1
  refine ⟨.string q, ?_, .str _⟩
  simp [execOp, ho, hv1, convert, run_underlying hs, run_underlying hd]
theorem y_nilc {o : Oper} {x : Operand} {X' : X} {v : AV} (ho : o.op = .nilCheck x) (hx : cX x = some X') (hv : getX ts X' = v)
    (hp : (∃ o a, v = .ptr o a) ∨ (∃ o j c, v = .rp o j c) ∨ (∃ m cs off, v = .ep m cs off) ∨ (∃ o j i, v = .subp o j i)) : Yes P o a w c v := by
  have h1 := rep_X hf hx
  rw [hv] at h1
  generalize hv1 : a.eval x = v1 at h1
  refine ⟨v1, ?_, h1⟩
  rcases hp with ⟨_, _, rfl⟩ | ⟨_, _, _, rfl⟩ | ⟨_, _, _, rfl⟩ | ⟨_, _, _, rfl⟩ <;> cases h1 <;> simp [execOp, ho, hv1]
theorem fieldAt_run {s : TypeId} {fs : Array Field} {f : Field} {j n b off : Nat} (hu : P.underlying s = some (.struct fs)) (hj : fs[j]? = some f) (hn : size? P f.type = some n) (h0 : n ≠ 0) :
    (Instr.fieldAt s (.pointer (some ⟨b, off, none⟩)) j).run P w = .ok (.pointer (some ⟨b, off + f.offset, none⟩)) w := by
  unfold size? at hn
  simp only [Option.map_eq_some_iff] at hn
  obtain ⟨i, hi, rfl⟩ := hn
  simp [Instr.fieldAt, run_underlying hu, hj, Instr.sureAddr, fieldPlace, sizeOf, typeInfo, hi, h0, add_none]
theorem y_fadr {o : Oper} {s : TypeId} {x : Operand} {j n : Nat} {fs : Array Field} {f : Field} {X' : X} {v v' : AV} (hu : P.underlying s = some (.struct fs)) (hj : fs[j]? = some f) (hn : size? P f.type = some n) (h0 : n ≠ 0)
    (ho : o.op = .fieldAddr s x j) (hx : cX x = some X') (hv : getX ts X' = v)
    (hp : (∃ o a, v = .ptr o a ∧ v' = .ptr o (a + f.offset)) ∨ (∃ o j c, v = .rp o j c ∧ v' = .rp o j (c + f.offset)) ∨ (∃ m cs off, v = .ep m cs off ∧ v' = .ep m cs (off + f.offset))) : Yes P o a w c v' := by
  have h1 := rep_X hf hx
  rw [hv] at h1
  generalize hv1 : a.eval x = v1 at h1
  rcases hp with ⟨q, r, rfl, rfl⟩ | ⟨q, r, z, rfl, rfl⟩ | ⟨m, cs, off, rfl, rfl⟩
  · cases h1 with
    | ptr _ _ b m hm hb => exact ⟨_, by simp only [execOp, ho, hv1, Sem.run_bind, fieldAt_run hf hu hj hn h0, Result.andThen_ok]; rfl, .ptr _ _ b m hm hb⟩
  · cases h1 with
    | rp _ _ _ b m hm hb => exact ⟨.pointer (some ⟨b, r * m.sz + (z + f.offset), none⟩), by simp only [execOp, ho, hv1, Sem.run_bind, fieldAt_run hf hu hj hn h0, Result.andThen_ok]; rw [← Nat.add_assoc]; rfl, .rp _ _ _ b m hm hb⟩
  · cases h1 with
    | ep _ _ _ b ob hb h => exact ⟨.pointer (some ⟨b, ob + (off + f.offset), none⟩), by simp only [execOp, ho, hv1, Sem.run_bind, fieldAt_run hf hu hj hn h0, Result.andThen_ok]; rw [← Nat.add_assoc]; rfl, .ep _ _ _ b ob hb h⟩
theorem y_idx {o : Oper} {t : TypeId} {x i : Operand} {X' I' : X} {s : ByteArray} {k : IntKind} {n : Int} (hu : P.underlying t = some .string) (ho : o.op = .index t x i) (hx : cX x = some X') (hi : cX i = some I') (hs : getX ts X' = .str s) (hn : getX ts I' = .int k n)
    (h : 0 ≤ n ∧ n.toNat < s.size) : Yes P o a w c (.int .u8 ((s[n.toNat]'h.2).toNat : Int)) := by
  have h1 := rep_X hf hx
  have h2 := rep_X hf hi
  rw [hs] at h1; rw [hn] at h2
  generalize hv1 : a.eval x = v1 at h1
  generalize hv2 : a.eval i = v2 at h2
  cases h1; cases h2
  refine ⟨_, ?_, .int _ _⟩
  have hq : s[n.toNat]? = some (s[n.toNat]'h.2) := by simp [h.2]
  simp [execOp, ho, hv1, hv2, Instr.index, asIntOf, run_underlying hu, h.1, hq]
theorem y_ext {o : Oper} {x : Operand} {i : Nat} {X' : X} {vs : List AV} {v : AV} (ho : o.op = .extract x i) (hx : cX x = some X') (hs : getX ts X' = .tup vs) (hv : vs[i]? = some v) : Yes P o a w c v := by
  have h1 := rep_X hf hx
  rw [hs] at h1
  generalize hv1 : a.eval x = v1 at h1
  cases h1 with
  | tup _ us h =>
    obtain ⟨u, hu, hr⟩ := h.get i v hv
    exact ⟨u, by simp [execOp, ho, hv1, Instr.extract, hu], hr⟩
theorem y_mkfn {o : Oper} {f : Nat} {first caps : Array Operand} {cs : List X} (h0 : first.isEmpty = true) (ho : o.op = .makeFunc (.func f) first caps) (hc : caps.toList.mapM cX = some cs) : Yes P o a w c (.fn f (cs.map (getX ts))) := by
  have h := rep_Xs hf hc
  have hfirst : first = #[] := by simpa using h0
  refine ⟨.func (.func f) #[] (caps.toList.map a.eval).toArray, ?_, .fn f _ _ h⟩
  subst hfirst
  simp [execOp, ho, Instr.makeFunc]
  apply Array.ext'; simp
theorem optI_run {x : Option Operand} {X' : Option X} {r : Option Int} (hx : x.mapM cX = some X') (h : optI ts X' = some r) : (x = none ∧ r = none) ∨ ∃ y n k, x = some y ∧ r = some n ∧ a.eval y = .int k n := by
  cases x with
  | none =>
    simp at hx; subst hx
    simp [optI] at h; exact .inl ⟨rfl, h.symm⟩
  | some y =>
    simp only [Option.mapM_some, Option.map_eq_map, Option.map_eq_some_iff] at hx
    obtain ⟨z, hz, rfl⟩ := hx
    have h1 := rep_X hf hz
    right
    cases z with
    | t n =>
      simp only [optI] at h
      simp only [getX] at h1
      generalize ts.at n = av at h h1
      cases av <;> simp at h
      subst h
      generalize hv : a.eval y = v at h1
      cases h1
      exact ⟨y, _, _, rfl, rfl, hv⟩
    | c av =>
      cases av <;> simp [optI] at h
      subst h
      simp only [getX] at h1
      generalize hv : a.eval y = v at h1
      cases h1
      exact ⟨y, _, _, rfl, rfl, hv⟩
theorem bound_run {x : Value} {k : IntKind} {n : Int} {y : Nat} (hx : x = .int k n) (h : 0 ≤ n ∧ n ≤ y) (code : BoundsCode) : (Instr.sliceBound x y code).run P w = .ok n.toNat w := by
  subst hx
  simp [Instr.sliceBound, asIntOf, h]
theorem bounds_run {isS : Bool} {len cap : Nat} {lo hi : Option Operand} {LO HI : Option X} {l h : Option Int} (hlo : lo.mapM cX = some LO) (hhi : hi.mapM cX = some HI) (hl : optI ts LO = some l) (hh : optI ts HI = some h)
    (hb : 0 ≤ l.getD 0 ∧ l.getD 0 ≤ h.getD len ∧ h.getD len ≤ len) (hc : len ≤ cap) : (Instr.sliceBounds isS len cap (lo.map a.eval) (hi.map a.eval) none).run P w = .ok ((l.getD 0).toNat, (h.getD len).toNat, cap) w := by
  unfold Instr.sliceBounds
  rcases optI_run hf hhi hh with ⟨rfl, rfl⟩ | ⟨y, n, k, rfl, rfl, hy⟩ <;> rcases optI_run hf hlo hl with ⟨rfl, rfl⟩ | ⟨z, m, q, rfl, rfl, hz⟩ <;>
    simp only [Option.map_some, Option.map_none, Option.getD_some, Option.getD_none, Sem.run_bind, Sem.run_pure, Result.andThen_ok] at hb ⊢
  · rfl
  · rw [bound_run hf hz ⟨by omega, by omega⟩]; rfl
  · rw [bound_run hf hy ⟨by omega, by omega⟩]; rfl
  · rw [bound_run hf hy ⟨by omega, by omega⟩]
    simp only [Result.andThen_ok]
    rw [bound_run hf hz ⟨by omega, by omega⟩]; rfl
theorem y_sstr {o : Oper} {t : TypeId} {x : Operand} {lo hi : Option Operand} {X' : X} {LO HI : Option X} {s : ByteArray} {l h : Option Int} {v : AV} (hu : P.underlying t = some .string) (ho : o.op = .slice t x lo hi none) (hx : cX x = some X')
    (hlo : lo.mapM cX = some LO) (hhi : hi.mapM cX = some HI) (hs : getX ts X' = .str s) (hl : optI ts LO = some l) (hh : optI ts HI = some h) (hv : sstrAV s l h = some v) : Yes P o a w c v := by
  have h1 := rep_X hf hx
  rw [hs] at h1
  generalize hv1 : a.eval x = v1 at h1
  cases h1
  unfold sstrAV at hv
  simp only at hv
  split at hv
  · rename_i hb
    simp at hv; subst hv
    refine ⟨_, ?_, .str _⟩
    simp only [execOp, ho, hv1, Instr.sliceAt, Sem.run_bind, run_underlying hu, Result.andThen_ok, Instr.slice, Option.map_none, Option.isSome_none, Bool.false_eq_true, if_false, Sem.run_pure, bounds_run hf hlo hhi hl hh hb (Nat.le_refl _)]
  · simp at hv
theorem RepD.view {S : Nat → Prop} {w : World} {xs : List (List D)} {A : Option Addr} {n cap : Nat} (h : RepD S w (.sl xs) (.slice A n cap)) (lo m sz : Nat) (hsz : ∀ el ∈ xs, el.length = sz) (hlo : lo + m ≤ xs.length) :
    n = xs.length ∧ n ≤ cap ∧ RepD S w (.sl (Gn.view xs lo m)) (.slice (if cap = lo then A else A.map (·.add (lo * sz))) m (cap - lo)) := by
  cases h with
  | nil A c => simp at hlo; obtain ⟨rfl, rfl⟩ := hlo; exact ⟨rfl, by simp, by simp [Gn.view]; exact .nil _ _⟩
  | sl xs b off sz' cap f hne hb hc hcell hrep =>
    refine ⟨rfl, hc, ?_⟩
    have hvl : (Gn.view xs lo m).length = m := by simp [Gn.view]; omega
    rcases Nat.eq_zero_or_pos m with rfl | hm
    · have : Gn.view xs lo 0 = [] := by simp [Gn.view]
      rw [this]; exact .nil _ _
    · have hget : ∀ j, (Gn.view xs lo m)[j]? = if j < m then xs[lo + j]? else none := by
        intro j
        simp only [Gn.view, List.getElem?_take, List.getElem?_drop]
      have hne' : Gn.view xs lo m ≠ [] := by intro e; rw [e] at hvl; simp at hvl; omega
      have hszeq : sz' = sz := by
        have hx : xs[lo]? = some (xs[lo]'(by omega)) := List.getElem?_eq_getElem (by omega)
        exact ((hcell lo _ hx).1).symm.trans (hsz _ (List.getElem_mem _))
      subst hszeq
      rw [if_neg (by omega)]
      simp only [Option.map_some, add_none]
      have := RepD.sl (S := S) (w := w) (Gn.view xs lo m) b (off + lo * sz') sz' (cap - lo) (fun j i => f (lo + j) i) hne' hb (by omega) (fun j el hj => by
        rw [hget] at hj
        split at hj
        · obtain ⟨h1, h2⟩ := hcell _ _ hj
          refine ⟨h1, fun i d hi => ?_⟩
          rw [← h2 i d hi]
          congr 1
          rw [Nat.add_mul]; omega
        · simp at hj) (fun j el i d hj hi => by
        rw [hget] at hj
        split at hj
        · exact hrep _ _ _ _ hj hi
        · simp at hj)
      rw [hvl] at this
      exact this
end
end Go.Gn

namespace Go.Gn
open Go
set_option linter.unusedVariables false
set_option linter.unusedSimpArgs false
set_option linter.unusedSectionVars false
section
variable {P : Program} {c : Cx} {w w0 : World} {nt : Nat} {ts : Ts} {a : Act} {os : List Obj} (hf : Frm c w nt ts a) (hst : Store w0 c os w)
include hf hst
theorem getRow {o : Nat} {x : Obj} (h : os.getD o .dead = x) (hd : x ≠ .dead) {m : Meta} (hm : c.μ o = some m) : RepObj c w m x := by
  obtain ⟨m', hm', hr⟩ := hst.obj o x h hd
  rw [hm] at hm'
  cases hm'
  exact hr
theorem ssl_val {sz : Nat} {x : AV} {l h : Option Int} {v : AV} {A : Option Addr} {n cap : Nat} (hr : RepAV c w x (.slice A n cap)) (hv : sslAV sz x l h os = some v) :
    n ≤ cap ∧ (0 ≤ l.getD 0 ∧ l.getD 0 ≤ h.getD n ∧ h.getD n ≤ n) ∧ RepAV c w v (.slice (if cap = (l.getD 0).toNat then A else A.map (·.add ((l.getD 0).toNat * sz))) ((h.getD n).toNat - (l.getD 0).toNat) (cap - (l.getD 0).toNat)) := by
  have row : ∀ (o a0 n0 A' : Nat) (m : Meta) (A : Option Addr) (cap : Nat), c.μ o = some m → m.sz = sz → n0 ≤ cap → (0 < n0 → ∃ b, m.blk = some b ∧ A = some ⟨b, a0 * m.sz, none⟩) → (0 ≤ l.getD 0 ∧ l.getD 0 ≤ h.getD n0 ∧ h.getD n0 ≤ n0) →
      RepAV c w (.hs o (a0 + (l.getD 0).toNat) ((h.getD n0).toNat - (l.getD 0).toNat)) (.slice (if cap = (l.getD 0).toNat then A else A.map (·.add ((l.getD 0).toNat * sz))) ((h.getD n0).toNat - (l.getD 0).toNat) (cap - (l.getD 0).toNat)) := by
    intro o a0 n0 _ m A cap hm hs hc hA hb
    refine .hs _ _ _ _ _ m hm (by omega) fun hp => ?_
    obtain ⟨b, hbb, rfl⟩ := hA (by omega)
    refine ⟨b, hbb, ?_⟩
    rw [if_neg (by omega)]
    simp only [Option.map_some, add_none, hs, Nat.add_mul]
  cases x <;> simp only [sslAV, reduceCtorEq] at hv
  case sl m xs =>
    cases hr with
    | sl _ _ _ hrep =>
    split at hv
    · rename_i hall
      split at hv
      · rename_i hb
        simp at hv; subst hv
        have hn : n = xs.length ∧ n ≤ cap := by cases hrep <;> exact ⟨rfl, by first | assumption | omega⟩
        refine ⟨hn.2, by rw [hn.1]; exact hb, .sl _ _ _ ?_⟩
        rw [hn.1]
        rcases l with _ | l
        · have : (h.getD (xs.length : Int)).toNat ≤ xs.length := by simp at hb; omega
          cases hrep with
          | nil A' c' =>
            simp at this
            have e : Gn.view ([] : List (List D)) 0 ((h.getD 0).toNat - 0) = [] := by simp [Gn.view]
            simp at e
            simp [Gn.view]
            rw [show (h.getD 0).toNat = 0 by simpa using this]
            exact .nil _ _
          | sl xs b off sz' cap' f hne hbb hc hcell hrep' =>
            have hh := RepD.view hf (.sl xs b off sz' cap f hne hbb hc hcell hrep') 0 (h.getD (xs.length : Int)).toNat sz' (fun el he => by obtain ⟨j, hj⟩ := List.getElem?_of_mem he; exact (hcell j el hj).1) (by omega)
            have := hh.2.2
            simp only [Option.getD_none, Int.toNat_zero, Nat.sub_zero, Nat.zero_mul] at this ⊢
            have e0 : (⟨b, off, none⟩ : Addr).add 0 = ⟨b, off, none⟩ := by simp [Addr.add]
            simp only [Option.map_some, e0] at this ⊢
            exact this
        · simp at hall
          have hh := RepD.view hf hrep l.toNat ((h.getD (xs.length : Int)).toNat - l.toNat) sz (fun el he => hall el he) (by simp at hb; omega)
          exact hh.2.2
      · simp at hv
    · simp at hv
  case nils =>
    cases hr
    split at hv
    · rename_i hb
      simp at hv; subst hv
      refine ⟨Nat.le_refl _, hb, ?_⟩
      have e1 : (l.getD 0).toNat = 0 := by omega
      have e2 : (h.getD 0).toNat = 0 := by simp at hb; omega
      simp [e1, e2]
      exact .nils
    · simp at hv
  case hw o =>
    cases hr with
    | hw _ m hm =>
    split at hv
    · rename_i s' k c0 xs hx
      have hrow := getRow hf hst hx (by simp) hm
      obtain ⟨h1, h2, h3, _, h5, _⟩ := hrow
      split at hv
      · rename_i hs
        split at hv
        · rename_i hb
          simp at hv; subst hv
          rw [← h2] at hb ⊢
          refine ⟨h3, hb, ?_⟩
          have := row o 0 m.len 0 m (m.blk.map mk0) m.cap hm (h1.trans hs) h3 (fun hp => by
            cases hbk : m.blk with
            | none => have := h5 hbk; omega
            | some b => exact ⟨b, rfl, by simp [mk0]⟩) hb
          simpa using this
        · simp at hv
      · simp at hv
    · rename_i s' xs hx
      have hrow := getRow hf hst hx (by simp) hm
      obtain ⟨h1, h2, h3, _, h5, _⟩ := hrow.1
      split at hv
      · rename_i hs
        split at hv
        · rename_i hb
          simp at hv; subst hv
          rw [← h2] at hb ⊢
          refine ⟨h3, hb, ?_⟩
          have := row o 0 m.len 0 m (m.blk.map mk0) m.cap hm (h1.trans hs) h3 (fun hp => by
            cases hbk : m.blk with
            | none => have := h5 hbk; omega
            | some b => exact ⟨b, rfl, by simp [mk0]⟩) hb
          simpa using this
        · simp at hv
      · simp at hv
    · simp at hv
  case hs o a0 n0 =>
    cases hr with
    | hs _ _ _ _ _ m hm hc hA =>
    split at hv
    · rename_i s' k c0 xs hx
      have hrow := getRow hf hst hx (by simp) hm
      split at hv
      · rename_i hs
        split at hv
        · rename_i hb
          simp at hv; subst hv
          exact ⟨hc, hb, row o a0 _ 0 m A cap hm (hrow.1.trans hs) hc hA hb⟩
        · simp at hv
      · simp at hv
    · rename_i s' xs hx
      have hrow := getRow hf hst hx (by simp) hm
      split at hv
      · rename_i hs
        split at hv
        · rename_i hb
          simp at hv; subst hv
          exact ⟨hc, hb, row o a0 _ 0 m A cap hm (hrow.1.1.trans hs) hc hA hb⟩
        · simp at hv
      · simp at hv
    · simp at hv
theorem y_ssl {o : Oper} {t e : TypeId} {sz : Nat} {x : Operand} {lo hi : Option Operand} {X' : X} {LO HI : Option X} {l h : Option Int} {v : AV} (hu : P.underlying t = some (.slice e)) (hsz : size? P e = some sz) (ho : o.op = .slice t x lo hi none) (hx : cX x = some X')
    (hlo : lo.mapM cX = some LO) (hhi : hi.mapM cX = some HI) (hl : optI ts LO = some l) (hh : optI ts HI = some h) (hv : sslAV sz (getX ts X') l h os = some v) : Yes P o a w c v := by
  have h1 := rep_X hf hx
  have hsl : ∃ A n cap, a.eval x = .slice A n cap := by
    generalize getX ts X' = av at h1 hv
    generalize a.eval x = vv at h1
    cases av <;> simp only [sslAV, reduceCtorEq] at hv <;> cases h1 <;> first | exact ⟨_, _, _, rfl⟩ | (rename_i hh; cases hh <;> exact ⟨_, _, _, rfl⟩)
  obtain ⟨A, n, cap, hval⟩ := hsl
  rw [hval] at h1
  obtain ⟨hc, hb, hr⟩ := ssl_val hf hst h1 hv
  refine ⟨_, ?_, hr⟩
  obtain ⟨i, hi', hsz'⟩ := Option.map_eq_some_iff.1 hsz
  simp only [execOp, ho, hval, Instr.sliceAt, Sem.run_bind, run_underlying hu, Result.andThen_ok, Instr.slice, Option.map_none, bounds_run hf hlo hhi hl hh hb hc, sizeOf, typeInfo, run_program, hi', hsz', Sem.run_pure]
end
end Go.Gn

namespace Go.Gn
open Go
set_option linter.unusedVariables false
set_option linter.unusedSimpArgs false
set_option linter.unusedSectionVars false
theorem choice {α β : Type} (Q : Nat → α → β → Prop) : ∀ (l : List α) (i0 : Nat), (∀ (i : Nat) (d : α), l[i]? = some d → ∃ u, Q (i0 + i) d u) → ∃ vs : List β, vs.length = l.length ∧ ∀ (i : Nat) (d : α), l[i]? = some d → ∃ u, vs[i]? = some u ∧ Q (i0 + i) d u
  | [], _, _ => ⟨[], rfl, fun i d h => by simp at h⟩
  | x :: l, i0, h => by
    obtain ⟨u, hu⟩ := h 0 x (by simp)
    obtain ⟨vs, hl, hv⟩ := choice Q l (i0 + 1) (fun i d hd => by have := h (i + 1) d (by simpa using hd); rwa [show i0 + 1 + i = i0 + (i + 1) by omega])
    refine ⟨u :: vs, by simp [hl], fun i d hd => ?_⟩
    cases i with
    | zero => simp at hd; subst hd; exact ⟨u, by simp, hu⟩
    | succ i => have := hv i d (by simpa using hd); rw [show i0 + 1 + i = i0 + (i + 1) by omega] at this; simpa using this
theorem rep_av {c : Cx} {w : World} {m : Md} {d : D} {v : Value} (h : RepD (c.set m) w d v) : RepAV c w (d.av m) v := by
  cases d with
  | int k n => cases h; exact .int _ _
  | bool b => cases h; exact .bool _
  | str s => cases h; exact .str _
  | sl xs => exact .sl _ _ _ h
  | top => exact .top _
theorem mapIdx_const {α β : Type} (l : List α) (f : α → β) : l.map f = l.mapIdx (fun _ d => f d) := by
  apply List.ext_getElem?; intro i; simp
theorem cut_some {α : Type} {cs : List α} {off n : Nat} {l : List α} (h : cut cs off n = some l) : l.length = n ∧ ∀ i, i < n → l[i]? = cs[off + i]? := by
  unfold cut at h
  split at h
  · rename_i hl
    simp at h; subst h
    exact ⟨by simp; omega, fun i hi => by simp [List.getElem?_take, List.getElem?_drop, hi]⟩
  · simp at h
section
variable {P : Program} {c : Cx} {w w0 : World} {nt : Nat} {ts : Ts} {a : Act} {os : List Obj} (hf : Frm c w nt ts a) (hst : Store w0 c os w)
include hf hst
theorem y_iadr {o : Oper} {t e : TypeId} {sz : Nat} {x i : Operand} {X' I' : X} {k : IntKind} {n : Int} {v : AV} (hu : P.underlying t = some (.slice e)) (hsz : size? P e = some sz) (ho : o.op = .indexAddr t x i) (hx : cX x = some X') (hi : cX i = some I')
    (hn : getX ts I' = .int k n) (hv : iadrAV sz (getX ts X') n os = some v) : Yes P o a w c v := by
  have h1 := rep_X hf hx
  have h2 := rep_X hf hi
  rw [hn] at h2
  obtain ⟨inf, hinf, hsz'⟩ := Option.map_eq_some_iff.1 hsz
  generalize getX ts X' = av at h1 hv
  generalize hval : a.eval x = xv at h1
  generalize hval2 : a.eval i = iv at h2
  cases h2
  have hrun : ∀ (b off len cap : Nat), 0 ≤ n → n.toNat < len → (Instr.indexAt t (.slice (some ⟨b, off, none⟩) len cap) (.int k n)).run P w = .ok (.pointer (some ⟨b, off + n.toNat * sz, none⟩)) w := by
    intro b off len cap h0 hl
    have h3 : 0 ≤ n ∧ n < (len : Int) := ⟨h0, by omega⟩
    simp [Instr.indexAt, asIntOf, run_underlying hu, h3, sizeOf, typeInfo, hinf, hsz', add_none]
  unfold iadrAV at hv
  split at hv
  · simp at hv
  · rename_i hneg
    have h0 : 0 ≤ n := by omega
    cases av <;> simp only [reduceCtorEq] at hv
    case sl m xs =>
      split at hv
      · rename_i el hel
        split at hv
        · rename_i hsl
          simp at hv; subst hv
          cases h1 with
          | sl _ _ _ hrep =>
          have hlt : n.toNat < xs.length := (List.getElem?_eq_some_iff.1 hel).1
          cases hrep with
          | nil A cc => simp at hel
          | sl _ b off sz' cap f hne hb hc hcell hrep =>
          obtain ⟨hs1, hs2⟩ := hcell _ _ hel
          have he : sz' = sz := hs1.symm.trans hsl
          subst he
          refine ⟨_, by simp only [execOp, ho, hval, hval2, Sem.run_bind, hrun b off _ _ h0 hlt, Result.andThen_ok]; rfl, ?_⟩
          exact .ep m el 0 b (off + n.toNat * sz') hb fun q d hq => ⟨_, hs2 q d hq, hrep _ _ _ _ hel hq⟩
        · simp at hv
      · simp at hv
    case hw q =>
      cases h1 with
      | hw _ m hm =>
      split at hv
      · rename_i s' kk c0 xs hxs
        obtain ⟨r1, r2, r3, _, r5, _⟩ := getRow hf hst hxs (by simp) hm
        split at hv
        · rename_i hlt
          simp at hv; subst hv
          obtain ⟨hlt, rfl⟩ := hlt
          cases hbk : m.blk with
          | none => have := r5 hbk; omega
          | some b =>
            refine ⟨_, by simp only [execOp, ho, hval, hval2, hbk, Option.map_some, mk0, Sem.run_bind, hrun b 0 m.len m.cap h0 (by omega), Result.andThen_ok]; rfl, ?_⟩
            have := RepAV.rp (c := c) (w := w) q n.toNat 0 b m hm hbk
            rw [r1] at this
            simpa using this
        · simp at hv
      · rename_i s' xs hxs
        obtain ⟨⟨r1, r2, r3, _, r5, _⟩, _⟩ := getRow hf hst hxs (by simp) hm
        split at hv
        · rename_i hlt
          simp at hv; subst hv
          obtain ⟨hlt, rfl⟩ := hlt
          cases hbk : m.blk with
          | none => have := r5 hbk; omega
          | some b =>
            refine ⟨_, by simp only [execOp, ho, hval, hval2, hbk, Option.map_some, mk0, Sem.run_bind, hrun b 0 m.len m.cap h0 (by omega), Result.andThen_ok]; rfl, ?_⟩
            have := RepAV.rp (c := c) (w := w) q n.toNat 0 b m hm hbk
            rw [r1] at this
            simpa using this
        · simp at hv
      · simp at hv
    case hs q lo len =>
      cases h1 with
      | hs _ _ _ A cap m hm hc hA =>
      split at hv
      · rename_i hlt
        obtain ⟨b, hbk, rfl⟩ := hA (by omega)
        split at hv
        · rename_i cs hxs
          split at hv
          · rename_i hlo
            simp at hv; subst hv
            subst hlo
            refine ⟨_, by simp only [execOp, ho, hval, hval2, Sem.run_bind, hrun b _ _ _ h0 hlt, Result.andThen_ok]; rfl, ?_⟩
            simpa using RepAV.ptr (c := c) (w := w) q (n.toNat * sz) b m hm hbk
          · simp at hv
        · rename_i s' kk c0 xs hxs
          split at hv
          · rename_i hs
            simp at hv; subst hv
            have r1 := (getRow hf hst hxs (by simp) hm).1
            refine ⟨_, by simp only [execOp, ho, hval, hval2, Sem.run_bind, hrun b _ _ _ h0 hlt, Result.andThen_ok]; rfl, ?_⟩
            have := RepAV.rp (c := c) (w := w) q (lo + n.toNat) 0 b m hm hbk
            rw [Nat.add_mul, Nat.add_zero] at this
            rw [r1, hs] at this ⊢
            exact this
          · simp at hv
        · rename_i s' xs hxs
          split at hv
          · rename_i hs
            simp at hv; subst hv
            have r1 := (getRow hf hst hxs (by simp) hm).1.1
            refine ⟨_, by simp only [execOp, ho, hval, hval2, Sem.run_bind, hrun b _ _ _ h0 hlt, Result.andThen_ok]; rfl, ?_⟩
            have := RepAV.rp (c := c) (w := w) q (lo + n.toNat) 0 b m hm hbk
            rw [Nat.add_mul, Nat.add_zero] at this
            rw [r1, hs] at this ⊢
            exact this
          · simp at hv
        · simp at hv
      · simp at hv
    case sub q j len =>
      split at hv
      · rename_i hlt
        simp at hv; subst hv
        obtain ⟨hlt, rfl⟩ := hlt
        cases h1 with
        | sub _ _ _ A cap m hm hc hA =>
        obtain ⟨b, hbk, rfl⟩ := hA (by omega)
        refine ⟨_, by simp only [execOp, ho, hval, hval2, Sem.run_bind, hrun b _ _ _ h0 hlt, Result.andThen_ok]; rfl, ?_⟩
        simpa using RepAV.subp (c := c) (w := w) q j n.toNat b m hm hbk
      · simp at hv
omit hf hst in
theorem isAgg_run {t : TypeId} {u : TypeDesc} (h : P.underlying t = some u) : (isAgg t).run P w = .ok (isAggD u) w := by
  unfold isAgg
  simp only [Sem.run_bind, run_underlying h, Result.andThen_ok]
  cases u <;> rfl
omit hf hst in
theorem loadVar_one {t : TypeId} {u : TypeDesc} (h : P.underlying t = some u) (hg : isAggD u = false) {A : Addr} {v : Value} (hv : w.cell? A = some v) : (loadVar t A).run P w = .ok v w := by
  simp [loadVar, isAgg_run h, hg, hv]
omit hf hst in
theorem loadVar_agg {t : TypeId} {u : TypeDesc} {n : Nat} (h : P.underlying t = some u) (hg : isAggD u = true) (hn : size? P t = some n) {b off : Nat} {vs : List Value} (hl : vs.length = n) (hv : ∀ (i : Nat) (v : Value), vs[i]? = some v → cellAt w b (off + i) = some v) :
    (loadVar t ⟨b, off, none⟩).run P w = .ok (.agg vs.toArray) w := by
  obtain ⟨inf, hinf, hsz⟩ := Option.map_eq_some_iff.1 hn
  subst hl
  have := run_loadCells_list (P := P) w ⟨b, off, none⟩ vs (fun j v hj => by rw [add_none]; exact hv j v hj)
  simp [loadVar, isAgg_run h, hg, sizeOf, typeInfo, hinf, hsz, this]
theorem row_cells {o : Nat} {m : Meta} {sz k c0 : Nat} {xs : List (List D)} (h : RepRow c.imm w m sz k c0 xs) {b j q : Nat} {el : List D} (hb : m.blk = some b) (hj : xs[j]? = some el) {i : Nat} {d : D} (hi : el[q + i]? = some d) :
    ∃ v, cellAt w b (j * m.sz + q + i) = some v ∧ (if j < k ∧ q + i = c0 then RepN c.imm w m j d v else RepD c.imm w d v) := by
  obtain ⟨h1, _, _, _, _, _, h7⟩ := h
  obtain ⟨vs, e, hh, _, hr⟩ := h7 b hb
  obtain ⟨v, hv, hrep⟩ := hr j el (q + i) d hj hi
  refine ⟨v, ?_, hrep⟩
  unfold cellAt World.cell?
  simp only [hh]
  rw [h1, Nat.add_assoc]
  simpa using hv
omit hf hst in
theorem rep_gAV {o : Nat} {m : Meta} (hm : c.μ o = some m) {k c0 j i : Nat} {d : D} {v : Value} (h : if j < k ∧ i = c0 then RepN c.imm w m j d v else RepD c.imm w d v) : RepAV c w (gAV k c0 j i d o) v := by
  split at h
  · rename_i hc
    obtain ⟨ys, rfl, h⟩ := h
    simp only [gAV, hc, and_self, if_true]
    rcases h with ⟨hn, rfl, A, cap, rfl⟩ | ⟨b, cap, vs, e, hn, rfl, _, hcap, _⟩
    · exact .sub _ _ _ _ _ m hm (by simp) (fun hp => by simp at hp)
    · exact .sub _ _ _ _ _ m hm hcap (fun _ => ⟨b, hn, rfl⟩)
  · rename_i hc
    have : gAV k c0 j i d o = d.av .sh := by
      cases d <;> simp only [gAV]
      rw [if_neg (fun h => hc ⟨h.2, h.1⟩)]; rfl
    rw [this]
    exact rep_av (m := .sh) h
theorem y_load {o : Oper} {t : TypeId} {u : TypeDesc} {n : Nat} {x : Operand} {X' : X} {v : AV} (hu : P.underlying t = some u) (hsz : size? P t = some n) (ho : o.op = .load t x) (hx : cX x = some X')
    (hv : loadAV (isAggD u) n (getX ts X') os = some v) : Yes P o a w c v := by
  have h1 := rep_X hf hx
  generalize getX ts X' = av at h1 hv
  generalize hval : a.eval x = xv at h1
  have one : ∀ (A : Addr) (y : Value), isAggD u = false → w.cell? A = some y → xv = .pointer (some A) → RepAV c w v y → Yes P o a w c v := by
    intro A y hg hc hxv hr
    refine ⟨y, ?_, hr⟩
    subst hxv
    simp only [execOp, ho, hval, Instr.loadAt, Instr.sureAddr, Sem.run_bind, Sem.run_pure, Result.andThen_ok, loadVar_one hu hg hc]
  have many : ∀ (b off : Nat) (l : List AV) (vs : List Value), isAggD u = true → vs.length = n → (∀ (i : Nat) (y : Value), vs[i]? = some y → cellAt w b (off + i) = some y) → xv = .pointer (some ⟨b, off, none⟩) → v = .agg l → RepAVs c w l vs → Yes P o a w c v := by
    intro b off l vs hg hl hc hxv hvl hr
    refine ⟨.agg vs.toArray, ?_, by rw [hvl]; exact .agg l vs hr⟩
    subst hxv
    simp only [execOp, ho, hval, Instr.loadAt, Instr.sureAddr, Sem.run_bind, Sem.run_pure, Result.andThen_ok, loadVar_agg hu hg hsz hl hc]
  have aggD : ∀ (b off : Nat) (l : List D) (Q : Nat → D → Value → Prop) (g : Nat → D → AV), isAggD u = true → l.length = n → (∀ (i : Nat) (d : D), l[i]? = some d → ∃ y, cellAt w b (off + i) = some y ∧ Q i d y) → (∀ i d y, Q i d y → RepAV c w (g i d) y) →
      xv = .pointer (some ⟨b, off, none⟩) → v = .agg (l.mapIdx g) → Yes P o a w c v := by
    intro b off l Q g hg hl hc hq hxv hvl
    obtain ⟨vs, hvs, hall⟩ := choice (fun i d y => cellAt w b (off + i) = some y ∧ Q i d y) l 0 (fun i d hd => by simpa using hc i d hd)
    refine many b off (l.mapIdx g) vs hg (hvs.trans hl) ?_ hxv hvl (RepAVs.of_get (by simp [hvs]) ?_)
    · intro i y hy
      have hi : i < l.length := by rw [← hvs]; exact (List.getElem?_eq_some_iff.1 hy).1
      obtain ⟨y', hy', hcell, _⟩ := hall i l[i] (List.getElem?_eq_getElem hi)
      rw [hy] at hy'; cases hy'
      simpa using hcell
    · intro i z hz
      simp only [List.getElem?_mapIdx, Option.map_eq_some_iff] at hz
      obtain ⟨d, hd, rfl⟩ := hz
      obtain ⟨y, hy, _, hq'⟩ := hall i d hd
      exact ⟨y, hy, hq i d y (by simpa using hq')⟩
  cases av <;> simp only [loadAV, reduceCtorEq] at hv
  case ep m cs off =>
    cases h1 with
    | ep _ _ _ b ob hb hcells =>
    split at hv
    · rename_i hg
      simp only [Option.map_eq_some_iff] at hv
      obtain ⟨l, hl, rfl⟩ := hv
      obtain ⟨hl1, hl2⟩ := cut_some hl
      refine aggD b (ob + off) l (fun _ d y => RepD (c.set m) w d y) (fun _ d => d.av m) hg hl1 (fun i d hd => ?_) (fun i d y h => rep_av h) rfl (by rw [mapIdx_const])
      have hi : i < n := by rw [← hl1]; exact (List.getElem?_eq_some_iff.1 hd).1
      obtain ⟨y, hy, hr⟩ := hcells (off + i) d (by rw [← hl2 i hi]; exact hd)
      exact ⟨y, by rw [Nat.add_assoc]; exact hy, hr⟩
    · rename_i hg
      simp only [Option.map_eq_some_iff] at hv
      obtain ⟨d, hd, rfl⟩ := hv
      obtain ⟨y, hy, hr⟩ := hcells off d hd
      exact one _ y (by simpa using hg) hy rfl (rep_av hr)
  case ptr q off =>
    cases h1 with
    | ptr _ _ b m hm hb =>
    split at hv
    · rename_i cs hcs
      obtain ⟨b', vs, e, hb', hh, hrs⟩ := getRow hf hst hcs (by simp) hm
      rw [hb] at hb'; cases hb'
      have hcell : ∀ i y, vs[i]? = some y → cellAt w b i = some y := by
        intro i y hy
        unfold cellAt World.cell?
        simp only [hh]
        simpa using hy
      split at hv
      · rename_i hg
        simp only [Option.map_eq_some_iff] at hv
        obtain ⟨l, hl, rfl⟩ := hv
        obtain ⟨hl1, hl2⟩ := cut_some hl
        obtain ⟨us, hus, hall⟩ := choice (fun i d y => vs[off + i]? = some y ∧ RepAV c w d y) l 0 (fun i d hd => by
          have hi : i < n := by rw [← hl1]; exact (List.getElem?_eq_some_iff.1 hd).1
          simpa using hrs.get (off + i) d (by rw [← hl2 i hi]; exact hd))
        refine many b off l us hg (hus.trans hl1) ?_ rfl rfl (RepAVs.of_get hus.symm ?_)
        · intro i y hy
          have hi : i < l.length := by rw [← hus]; exact (List.getElem?_eq_some_iff.1 hy).1
          obtain ⟨y', hy', h3, _⟩ := hall i l[i] (List.getElem?_eq_getElem hi)
          rw [hy] at hy'; cases hy'
          exact hcell _ _ (by simpa using h3)
        · intro i z hz
          obtain ⟨y, hy, _, h4⟩ := hall i z hz
          exact ⟨y, hy, h4⟩
      · rename_i hg
        obtain ⟨y, hy, hr⟩ := hrs.get off v hv
        exact one _ y (by simpa using hg) (hcell _ _ hy) rfl hr
    · simp at hv
  case rp q j z =>
    cases h1 with
    | rp _ _ _ b m hm hb =>
    split at hv
    · rename_i s' k c0 xs hxs
      have hrow := getRow hf hst hxs (by simp) hm
      split at hv
      · rename_i el hel
        split at hv
        · rename_i hg
          simp only [Option.map_eq_some_iff] at hv
          obtain ⟨l, hl, rfl⟩ := hv
          obtain ⟨hl1, hl2⟩ := cut_some hl
          refine aggD b (j * m.sz + z) l (fun i d y => if j < k ∧ z + i = c0 then RepN c.imm w m j d y else RepD c.imm w d y) (fun i d => gAV k c0 j (z + i) d q) hg hl1 (fun i d hd => ?_) (fun i d y h => rep_gAV hm h) rfl rfl
          have hi : i < n := by rw [← hl1]; exact (List.getElem?_eq_some_iff.1 hd).1
          exact row_cells (o := q) hf hst hrow hb hel (by rw [← hl2 i hi]; exact hd)
        · rename_i hg
          simp only [Option.map_eq_some_iff] at hv
          obtain ⟨d, hd, rfl⟩ := hv
          obtain ⟨y, hy, hr⟩ := row_cells (o := q) (i := 0) hf hst hrow hb hel (q := z) (by simpa using hd)
          exact one _ y (by simpa using hg) hy rfl (rep_gAV hm (by simpa using hr))
      · simp at hv
    · rename_i s' xs hxs
      have hrow := (getRow hf hst hxs (by simp) hm).1
      split at hv
      · rename_i el hel
        split at hv
        · rename_i hg
          simp only [Option.map_eq_some_iff] at hv
          obtain ⟨l, hl, rfl⟩ := hv
          obtain ⟨hl1, hl2⟩ := cut_some hl
          refine aggD b (j * m.sz + z) l (fun i d y => RepD c.imm w d y) (fun i d => d.av .sh) hg hl1 (fun i d hd => ?_) (fun i d y h => rep_av (m := .sh) h) rfl (by rw [mapIdx_const])
          have hi : i < n := by rw [← hl1]; exact (List.getElem?_eq_some_iff.1 hd).1
          obtain ⟨y, hy, hr⟩ := row_cells (o := q) hf hst hrow hb hel (by rw [← hl2 i hi]; exact hd)
          exact ⟨y, hy, by simpa using hr⟩
        · rename_i hg
          simp only [Option.map_eq_some_iff] at hv
          obtain ⟨d, hd, rfl⟩ := hv
          obtain ⟨y, hy, hr⟩ := row_cells (o := q) (i := 0) hf hst hrow hb hel (q := z) (by simpa using hd)
          exact one _ y (by simpa using hg) hy rfl (rep_av (m := .sh) (by show RepD c.imm w d y; simpa using hr))
      · simp at hv
    · simp at hv
  case subp q j i =>
    cases h1 with
    | subp _ _ _ b m hm hb =>
    split at hv
    · rename_i s' k c0 xs hxs
      have hrow := getRow hf hst hxs (by simp) hm
      split at hv
      · rename_i el hel
        split at hv
        · rename_i ys hys
          split at hv
          · simp at hv
          · rename_i hg
            split at hv
            · rename_i d hd
              simp at hv; subst hv
              simp only [not_or, Nat.not_le] at hg
              cases hbk : m.blk with
              | none =>
                have h5 := hrow.2.2.2.2.1 hbk
                have := hrow.2.1; have := hrow.2.2.1
                have : j < xs.length := (List.getElem?_eq_some_iff.1 hel).1
                omega
              | some b' =>
              obtain ⟨y, hy, hr⟩ := row_cells (o := q) (i := 0) hf hst hrow hbk hel (q := c0) (by simpa using hys)
              rw [if_pos ⟨hg.2, by simp⟩] at hr
              obtain ⟨ys', he, hr⟩ := hr
              cases he
              rcases hr with ⟨hn, rfl, _⟩ | ⟨b2, cap, vs, e, hn, hyv, hh, _, _, hr⟩
              · simp at hd
              · rw [hb] at hn; cases hn
                obtain ⟨d', y', hd', hy', hr'⟩ := hr i [d] hd
                simp at hd'; subst hd'
                refine one ⟨b, i, none⟩ y' (by simpa using hg.1) ?_ rfl (rep_av (m := .sh) hr')
                unfold World.cell?
                simp only [hh]
                simpa using hy'
            · simp at hv
        · simp at hv
      · simp at hv
    · simp at hv
end
end Go.Gn

namespace Go.Gn
open Go
set_option linter.unusedVariables false
set_option linter.unusedSimpArgs false
set_option linter.unusedSectionVars false
theorem foldl_set (off : Nat) : ∀ (vs : List Value) (i : Nat) (cells : Array Value), off + i + vs.length ≤ cells.size →
    ((vs.zipIdx i).foldl (fun cs p => cs.setIfInBounds (off + p.2) p.1) cells).toList = splice cells.toList (off + i) vs
  | [], i, cells, _ => by simp [splice]
  | v :: vs, i, cells, h => by
    simp only [List.length_cons] at h
    rw [List.zipIdx_cons, List.foldl_cons, foldl_set off vs (i + 1) _ (by simp; omega)]
    simp only [splice, Array.toList_setIfInBounds, List.length_cons]
    apply List.ext_getElem?
    intro q
    simp only [List.getElem?_append, List.length_append, List.length_take, List.length_set, Array.length_toList, List.getElem?_take, List.getElem?_drop, List.getElem?_set, List.length_cons]
    by_cases h1 : q < off + i
    · simp [h1, show q < off + (i + 1) by omega, show q < min (off + i) cells.size by omega, show q < min (off + i) cells.size + (vs.length + 1) by omega, show q < min (off + (i + 1)) cells.size by omega, show q < min (off + (i + 1)) cells.size + vs.length by omega, show ¬ off + i = q by omega]
    · by_cases h2 : q = off + i
      · subst h2
        simp [show off + i < off + (i + 1) by omega, show off + i < cells.size by omega, show min (off + i) cells.size = off + i by omega, show min (off + (i + 1)) cells.size = off + i + 1 by omega]
        intro h; omega
      · by_cases h3 : q < off + i + (vs.length + 1)
        · have e1 : min (off + i) cells.size = off + i := by omega
          have e2 : min (off + (i + 1)) cells.size = off + i + 1 := by omega
          simp [e1, e2, h1, show ¬ q < off + (i + 1) by omega, show ¬ q < off + i + 1 by omega, show q < off + i + 1 + vs.length by omega, h3]
          have : q - (off + i) = (q - (off + i + 1)) + 1 := by omega
          rw [this]; simp
        · have e1 : min (off + i) cells.size = off + i := by omega
          have e2 : min (off + (i + 1)) cells.size = off + i + 1 := by omega
          simp [e1, e2, h1, h3, show ¬ q < off + i + 1 by omega, show ¬ q < off + i + 1 + vs.length by omega]
          have e3 : off + i + 1 + vs.length + (q - (off + i + 1 + vs.length)) = q := by omega
          have e4 : off + i + (vs.length + 1) + (q - (off + i + (vs.length + 1))) = q := by omega
          have e5 : off + (i + 1) + vs.length + (q - (off + i + 1 + vs.length)) = q := by omega
          simp [e3, e4, e5, show ¬ off + i = q by omega]
theorem RepAVs.append {c : Cx} {w : World} : ∀ {aS : List AV} {vs : List Value} {bs : List AV} {us : List Value}, RepAVs c w aS vs → RepAVs c w bs us → RepAVs c w (aS ++ bs) (vs ++ us)
  | _, _, _, _, .nil, h => h
  | _, _, _, _, .cons a v aS vs h hs, h' => .cons _ _ _ _ h (hs.append h')
theorem RepAVs.take {c : Cx} {w : World} : ∀ (n : Nat) {aS : List AV} {vs : List Value}, RepAVs c w aS vs → RepAVs c w (aS.take n) (vs.take n)
  | 0, _, _, _ => by simp; exact .nil
  | n + 1, _, _, .nil => by simp; exact .nil
  | n + 1, _, _, .cons a v aS vs h hs => by simp only [List.take_succ_cons]; exact .cons _ _ _ _ h (hs.take n)
theorem RepAVs.drop {c : Cx} {w : World} : ∀ (n : Nat) {aS : List AV} {vs : List Value}, RepAVs c w aS vs → RepAVs c w (aS.drop n) (vs.drop n)
  | 0, _, _, h => by simpa using h
  | n + 1, _, _, .nil => by simp; exact .nil
  | n + 1, _, _, .cons a v aS vs h hs => by simp only [List.drop_succ_cons]; exact hs.drop n
theorem RepAVs.splice {c : Cx} {w : World} {aS : List AV} {vs : List Value} {bs : List AV} {us : List Value} (h : RepAVs c w aS vs) (off : Nat) (h' : RepAVs c w bs us) : RepAVs c w (Gn.splice aS off bs) (Gn.splice vs off us) := by
  unfold Gn.splice
  rw [h'.length]
  exact ((h.take off).append h').append (h.drop _)
theorem one_rep {c : Cx} {w : World} {x : AV} {v : Value} (h : RepAV c w x v) (h1 : x.one = true) : v.oneCell' = true := by
  cases h <;> first | rfl | (simp [AV.one] at h1; done) | skip
  rename_i h; cases h <;> rfl
theorem cells_rep {c : Cx} {w : World} {x : AV} {v : Value} (h : RepAV c w x v) (h1 : x.okc = true) : RepAVs c w x.cells v.cells.toList := by
  cases h with
  | agg cs vs h => simpa [AV.cells, Value.cells] using h
  | un => simp [AV.okc, AV.one] at h1
  | top v => simp [AV.okc, AV.one] at h1
  | tup cs vs h => simp [AV.okc, AV.one] at h1
  | sl m xs v h => cases h <;> exact .cons _ _ _ _ (by constructor; constructor <;> assumption) .nil
  | int k n => exact .cons _ _ _ _ (.int _ _) .nil
  | bool b => exact .cons _ _ _ _ (.bool _) .nil
  | str s => exact .cons _ _ _ _ (.str _) .nil
  | nils => exact .cons _ _ _ _ .nils .nil
  | nilp => exact .cons _ _ _ _ .nilp .nil
  | ep m cs off b o hb h => exact .cons _ _ _ _ (.ep m cs off b o hb h) .nil
  | ptr o off b m hm hb => exact .cons _ _ _ _ (.ptr o off b m hm hb) .nil
  | rp o j q b m hm hb => exact .cons _ _ _ _ (.rp o j q b m hm hb) .nil
  | hw o m hm => exact .cons _ _ _ _ (.hw o m hm) .nil
  | hs o lo len A cap m hm hc h => exact .cons _ _ _ _ (.hs o lo len A cap m hm hc h) .nil
  | sub o j len A cap m hm hc h => exact .cons _ _ _ _ (.sub o j len A cap m hm hc h) .nil
  | subp o j i b m hm hb => exact .cons _ _ _ _ (.subp o j i b m hm hb) .nil
  | fn f caps vs h => exact .cons _ _ _ _ (.fn f caps vs h) .nil
section
variable {P : Program} {c : Cx} {w w0 : World} {nt : Nat} {ts : Ts} {a : Act} {os : List Obj} (hf : Frm c w nt ts a) (hst : Store w0 c os w)
include hf hst
theorem fill_rep (place : Nat → Option (Nat × Nat)) : ∀ (ps : List (Nat × Operand)) (qs : List (Nat × Nat × X)) (zs cs : List AV) (cells : Array Value), cParts place ps = some qs → RepAVs c w zs cells.toList → fillAV zs (qs.map fun p => (p.1, p.2.1, getX ts p.2.2)) = some cs →
    ∃ out, Instr.fill place cells (ps.map fun p => (p.1, a.eval p.2)) = some out ∧ RepAVs c w cs out.toList
  | [], qs, zs, cs, cells, hq, hz, hfl => by
    simp [cParts] at hq; subst hq
    simp [fillAV] at hfl; subst hfl
    exact ⟨cells, rfl, hz⟩
  | (i, x) :: ps, qs, zs, cs, cells, hq, hz, hfl => by
    simp only [cParts, Option.bind_eq_bind, Option.bind_eq_some_iff, Option.pure_def, Option.some.injEq] at hq
    obtain ⟨q, hpl, y, hy, l, hl, rfl⟩ := hq
    simp only [List.map_cons, fillAV] at hfl
    split at hfl
    · rename_i hc
      obtain ⟨hok, hlen, hoff⟩ := hc
      have hr := cells_rep (rep_X hf hy) hok
      have hsz : (a.eval x).cells.size = q.2 := by have := hr.length; simp at this; omega
      have hcs : cells.size = zs.length := by have := hz.length; simp at this; omega
      obtain ⟨out, ho, hro⟩ := fill_rep place ps l (splice zs q.1 (getX ts y).cells) cs ((a.eval x).cells.zipIdx.foldl (fun cs p => cs.setIfInBounds (q.1 + p.2) p.1) cells) hl (by
        rw [← Array.foldl_toList, Array.toList_zipIdx, foldl_set q.1 _ 0 cells (by simp; omega)]
        simpa using hz.splice q.1 hr) hfl
      refine ⟨out, ?_, hro⟩
      simp only [List.map_cons, Instr.fill, hpl]
      rw [if_neg (by simp; omega)]
      exact ho
    · simp at hfl
omit hf hst in
theorem zs_rep {t : TypeId} {zs : List AV} (h : zs? P t = some zs) : ∃ i z, P.info? t = some i ∧ i.zero = some z ∧ RepAVs c w zs z.cells.toList := by
  unfold zs? at h
  simp only [Option.bind_eq_bind, Option.bind_eq_some_iff] at h
  obtain ⟨i, hi, z, hz, h⟩ := h
  refine ⟨i, z, hi, hz, ?_⟩
  generalize z.cells.toList = l at h
  induction l generalizing zs with
  | nil => simp at h; subst h; exact .nil
  | cons v l ih =>
    simp only [List.mapM_cons, Option.bind_eq_bind, Option.bind_eq_some_iff, Option.pure_def, Option.some.injEq] at h
    obtain ⟨x, hx, r, hr, rfl⟩ := h
    exact .cons _ _ _ _ (rep_const hx) (ih hr)
theorem y_build {o : Oper} {t : TypeId} {parts : Array (Nat × Operand)} {fs : Array Field} {zs cs : List AV} {pl : List (Nat × Nat)} {ps : List (Nat × Nat × X)} (hz : zs? P t = some zs) (hu : P.underlying t = some (.struct fs))
    (hpl : fs.toList.mapM (fun f => (P.info? f.type).map fun i => (f.offset, i.size)) = some pl) (hps : cParts (pl.toArray[·]?) parts.toList = some ps) (ho : o.op = .build t parts) (hfl : fillAV zs (ps.map fun p => (p.1, p.2.1, getX ts p.2.2)) = some cs) : Yes P o a w c (.agg cs) := by
  obtain ⟨i, z, hi, hzz, hrz⟩ := zs_rep (c := c) (w := w) hz
  obtain ⟨out, hout, hro⟩ := fill_rep hf hst (pl.toArray[·]?) parts.toList ps zs cs z.cells hps hrz hfl
  refine ⟨.agg out, ?_, by have := RepAV.agg (c := c) (w := w) cs out.toList hro; simpa using this⟩
  have hb : P.built t (parts.map fun (i, x) => (i, a.eval x)).toList = some out := by
    simp only [Program.built, hi, hu, hzz, hpl]
    rw [← hout]
    simp
  simp only [execOp, ho, Sem.run_bind, run_build w t _ out hb, Result.andThen_ok, Sem.run_pure]
theorem y_len {o : Oper} {t e : TypeId} {cl : Call} {x : Operand} {X' : X} {n : Int} (hu : P.underlying t = some (.slice e)) (ho : o.op = .call cl) (hcl : cl.callee = .builtin .len) (hat : cl.argTypes[0]? = some t) (hargs : cl.args.toList = [x]) (hx : cX x = some X')
    (hn : lenAV (getX ts X') os = some n) : Yes P o a w c (.int .i64 n) := by
  have h1 := rep_X hf hx
  have hargs' : cl.args = #[x] := by cases hcl' : cl.args; simp_all
  have hval : ∃ A cap q, a.eval x = .slice A q cap ∧ n = (q : Int) := by
    generalize getX ts X' = av at h1 hn
    generalize a.eval x = vv at h1
    cases av <;> simp only [lenAV, reduceCtorEq] at hn
    case sl m xs => cases h1 with | sl _ _ _ h => cases h <;> simp at hn <;> exact ⟨_, _, _, rfl, by simp [← hn]⟩
    case nils => cases h1; simp at hn; exact ⟨_, _, _, rfl, by simp [← hn]⟩
    case hw q =>
      cases h1 with
      | hw _ m hm =>
      split at hn
      · rename_i hx'
        have := (getRow hf hst hx' (by simp) hm).2.1
        simp at hn; exact ⟨_, _, _, rfl, by rw [this]; exact hn.symm⟩
      · rename_i hx'
        have := (getRow hf hst hx' (by simp) hm).1.2.1
        simp at hn; exact ⟨_, _, _, rfl, by rw [this]; exact hn.symm⟩
      · simp at hn
    case hs => cases h1; simp at hn; exact ⟨_, _, _, rfl, hn.symm⟩
    case sub => cases h1; simp at hn; exact ⟨_, _, _, rfl, hn.symm⟩
  obtain ⟨A, cap, q, hv, rfl⟩ := hval
  refine ⟨.int .i64 q, ?_, .int _ _⟩
  simp [execOp, ho, resolve, hcl, invoke, builtin, Builtin.len_, hat, hargs', hv, run_underlying hu, goInt]
theorem y_lens {o : Oper} {t : TypeId} {cl : Call} {x : Operand} {X' : X} {s : ByteArray} (hu : P.underlying t = some .string) (ho : o.op = .call cl) (hcl : cl.callee = .builtin .len) (hat : cl.argTypes[0]? = some t) (hargs : cl.args.toList = [x]) (hx : cX x = some X')
    (hn : getX ts X' = .str s) : Yes P o a w c (.int .i64 s.size) := by
  have h1 := rep_X hf hx
  rw [hn] at h1
  have hargs' : cl.args = #[x] := by cases hcl' : cl.args; simp_all
  generalize hv : a.eval x = vv at h1
  cases h1
  refine ⟨.int .i64 s.size, ?_, .int _ _⟩
  simp [execOp, ho, resolve, hcl, invoke, builtin, Builtin.len_, hat, hargs', hv, run_underlying hu, goInt]
theorem y_minmax {o : Oper} {cl : Call} {X' : List X} {v : AV} (b : Bool) (ho : o.op = .call cl) (hcl : cl.callee = .builtin (if b then .min else .max)) (hx : cl.args.toList.mapM cX = some X')
    (hn : (if b then minI else maxI) (X'.map (getX ts)) = some v) : Yes P o a w c v := by
  have h1 := rep_Xs hf hx
  generalize X'.map (getX ts) = l at h1 hn
  have hl : ∃ k k' p q, l = [.int k p, .int k' q] ∧ v = .int k (if b then (if q < p then q else p) else (if q > p then q else p)) := by
    cases b <;> simp only [if_true, Bool.false_eq_true, if_false] at hn
    · unfold maxI at hn; split at hn <;> simp at hn; exact ⟨_, _, _, _, rfl, hn.symm⟩
    · unfold minI at hn; split at hn <;> simp at hn; exact ⟨_, _, _, _, rfl, hn.symm⟩
  obtain ⟨k, k', p, q, rfl, rfl⟩ := hl
  generalize hm : List.map a.eval cl.args.toList = m at h1
  cases h1 with
  | cons _ v1 _ vs hr1 hs =>
  cases hs with
  | cons _ v2 _ vs' hr2 hs =>
  cases hs
  cases hr1; cases hr2
  have hargs : Array.map a.eval cl.args = #[.int k p, .int k' q] := by apply Array.ext'; simp [hm]
  refine ⟨_, ?_, .int _ _⟩
  cases b
  · simp only [Bool.false_eq_true, if_false] at hcl ⊢
    simp [execOp, ho, resolve, hcl, invoke, builtin, Builtin.max_, Builtin.max2, hargs]
  · simp only [if_true] at hcl ⊢
    simp [execOp, ho, resolve, hcl, invoke, builtin, Builtin.min_, Builtin.min2, hargs]
omit hf hst in
theorem bytesD_get : ∀ (ys : List (List D)) (l : List Int), bytesD ys = some l → l.length = ys.length ∧ ∀ (j : Nat) (el : List D), ys[j]? = some el → el = [.int .u8 (l.getD j 0)]
  | [], l, h => by simp [bytesD] at h; subst h; exact ⟨rfl, fun j el h => by simp at h⟩
  | el :: ys, l, h => by
    unfold bytesD at h
    split at h
    · rename_i h'; cases h'
    · rename_i n xs he
      cases he
      split at h
      · rename_i r hr
        simp at h; subst h
        obtain ⟨h1, h2⟩ := bytesD_get _ _ hr
        refine ⟨by simp [h1], fun j el hj => ?_⟩
        cases j with
        | zero => simp at hj; subst hj; simp
        | succ j => have := h2 j el (by simpa using hj); simpa using this
      · simp at h
    · simp at h
theorem y_b2s {o : Oper} {s d e : TypeId} {x : Operand} {X' : X} {ys : List (List D)} {l : List Int} (hs : P.underlying s = some (.slice e)) (he : P.underlying e = some (.int .u8)) (hd : P.underlying d = some .string) (ho : o.op = .convert s d x) (hx : cX x = some X')
    (hv : (∃ m, getX ts X' = .sl m ys) ∨ (∃ q sz k c0, getX ts X' = .hw q ∧ os.getD q .dead = .row sz k c0 ys) ∨ (∃ q sz, getX ts X' = .hw q ∧ os.getD q .dead = .frz sz ys)) (hl : bytesD ys = some l) : Yes P o a w c (.str (strOfNums l)) := by
  have h1 := rep_X hf hx
  generalize getX ts X' = av at h1 hv
  generalize hval : a.eval x = vv at h1
  obtain ⟨hlen, hget⟩ := bytesD_get ys l hl
  have fin : (convert s d vv).run P w = .ok (.string (strOfNums l)) w → Yes P o a w c (.str (strOfNums l)) := fun h => ⟨.string (strOfNums l), by simp only [execOp, ho, hval, Sem.run_bind, h, Result.andThen_ok, Sem.run_pure], .str _⟩
  have row : ∀ (S : Nat → Prop) (b off cap : Nat), (∀ (j : Nat) (el : List D) (i : Nat) (dd : D), ys[j]? = some el → el[i]? = some dd → ∃ u, cellAt w b (off + j * el.length + i) = some u ∧ RepD S w dd u) → vv = .slice (some ⟨b, off, none⟩) ys.length cap → Yes P o a w c (.str (strOfNums l)) := by
    intro S b off cap hc hvv
    subst hvv
    refine fin (run_convert_bytes_arg (P := P) w s e hs he b off ys.length cap l hlen (fun i hi => ?_) d hd)
    have hy : ys[i]? = some (ys[i]'hi) := List.getElem?_eq_getElem hi
    have hel := hget i _ hy
    obtain ⟨u, hu, hr⟩ := hc i _ 0 (.int .u8 (l.getD i 0)) hy (by rw [hel]; rfl)
    cases hr
    rw [hel] at hu
    simpa [cellAt] using hu
  have empty : ∀ A cap, ys = [] → vv = .slice A 0 cap → Yes P o a w c (.str (strOfNums l)) := by
    intro A cap hy hvv
    subst hy
    simp [bytesD] at hl; subst hl
    subst hvv
    cases A with
    | none => exact fin ((run_convert_bytes_nil (P := P) w s e hs he 0 cap d hd).trans (by rfl))
    | some A =>
      refine fin ?_
      simp [convert, run_underlying hs, run_underlying hd, run_underlying he, Conv.bytesToString, loadCells, loadCellsFrom]
      rfl
  rcases hv with ⟨m, rfl⟩ | ⟨q, sz, k, c0, rfl, hq⟩ | ⟨q, sz, rfl, hq⟩
  · cases h1 with
    | sl _ _ _ h =>
    cases h with
    | nil A cap => exact empty A cap rfl rfl
    | sl _ b off sz cap f hne hb hc hcell hrep =>
      exact row (c.set m) b off cap (fun j el i dd hj hi => ⟨_, by rw [(hcell j el hj).1]; exact (hcell j el hj).2 i dd hi, hrep j el i dd hj hi⟩) rfl
  · cases h1 with
    | hw _ m hm =>
    have hr := getRow hf hst hq (by simp) hm
    have hml : m.len = ys.length := hr.2.1
    cases hbk : m.blk with
    | none =>
      have := hr.2.2.2.2.1 hbk; have := hr.2.2.1
      have : ys = [] := List.eq_nil_of_length_eq_zero (by omega)
      exact empty none m.cap this (by rw [hbk, hml, this]; rfl)
    | some b =>
      refine row c.imm b 0 m.cap (fun j el i dd hj hi => ?_) (by rw [hbk, hml]; rfl)
      obtain ⟨v, hv, hrep⟩ := row_cells (o := q) hf hst hr hbk hj (q := 0) (by simpa using hi)
      have hel := hget j el hj
      have hsz : m.sz = el.length := by rw [hr.1]; exact (hr.2.2.2.2.2.1 el (List.mem_of_getElem? hj)).symm
      rw [hsz] at hv
      refine ⟨v, by simpa using hv, ?_⟩
      split at hrep
      · obtain ⟨ys', hd', _⟩ := hrep
        subst hd'
        rw [hel] at hi
        cases i <;> simp at hi
      · exact hrep
  · cases h1 with
    | hw _ m hm =>
    have hr := (getRow hf hst hq (by simp) hm).1
    have hml : m.len = ys.length := hr.2.1
    cases hbk : m.blk with
    | none =>
      have := hr.2.2.2.2.1 hbk; have := hr.2.2.1
      have : ys = [] := List.eq_nil_of_length_eq_zero (by omega)
      exact empty none m.cap this (by rw [hbk, hml, this]; rfl)
    | some b =>
      refine row c.imm b 0 m.cap (fun j el i dd hj hi => ?_) (by rw [hbk, hml]; rfl)
      obtain ⟨v, hv, hrep⟩ := row_cells (o := q) hf hst hr hbk hj (q := 0) (by simpa using hi)
      have hsz : m.sz = el.length := by rw [hr.1]; exact (hr.2.2.2.2.2.1 el (List.mem_of_getElem? hj)).symm
      rw [hsz] at hv
      exact ⟨v, by simpa using hv, by simpa using hrep⟩
end
end Go.Gn

namespace Go.Gn
open Go
set_option linter.unusedVariables false
set_option linter.unusedSimpArgs false
set_option linter.unusedSectionVars false
def Cx.with (c : Cx) (nb : Nat) (m : Meta) : Cx := { c with μ := fun o => if o = nb then some m else c.μ o }
def plainObj : Obj → Bool
  | .box _ => true
  | .row _ 0 _ _ => true
  | _ => false
theorem Store.getD_none {w0 : World} {c : Cx} {os : List Obj} {w : World} (h : Store w0 c os w) {nb : Nat} (hnb : c.μ nb = none) : os.getD nb .dead = .dead := by
  rcases hx : os.getD nb .dead with _ | _ | _ | _
  all_goals first
    | rfl
    | (obtain ⟨m, hm, _⟩ := h.obj nb _ hx (by simp); rw [hnb] at hm; cases hm)
theorem Store.new {w0 : World} {c : Cx} {os : List Obj} {w : World} (h : Store w0 c os w) {nb : Nat} (hnb : c.μ nb = none) (vs : Array Value) (e : TypeId) (x : Obj) (m : Meta) (hm : m.blk = some w.heap.size) (hx : plainObj x = true)
    (hr : ∀ w', Ext c w (c.with nb m) w' → w'.heap[w.heap.size]? = some (.cells vs e (0, 0)) → RepObj (c.with nb m) w' m x) :
    Store w0 (c.with nb m) (setAt os nb x) { w with heap := w.heap.push (.cells vs e (0, 0)) } ∧ Ext c w (c.with nb m) { w with heap := w.heap.push (.cells vs e (0, 0)) } := by
  have hd := h.getD_none hnb
  have hown : ∀ o l b, Owns (c.with nb m).μ (setAt os nb x) o l b → (o = nb ∧ l = none ∧ b = w.heap.size) ∨ (o ≠ nb ∧ Owns c.μ os o l b) := by
    intro o l b ⟨m', hm', ho⟩
    by_cases he : o = nb
    · subst he
      left
      simp only [Cx.with, if_true] at hm'
      cases hm'
      rw [getD_setAt, if_pos rfl] at ho
      cases x with
      | box cs => cases l <;> simp at ho; exact ⟨rfl, rfl, by rw [hm] at ho; cases ho; rfl⟩
      | row sz k c0 xs =>
        cases k with
        | zero => cases l <;> simp at ho; exact ⟨rfl, rfl, by rw [hm] at ho; cases ho; rfl⟩
        | succ k => simp [plainObj] at hx
      | frz sz xs => simp [plainObj] at hx
      | dead => simp [plainObj] at hx
    · right
      simp only [Cx.with, he, if_false] at hm'
      rw [getD_setAt, if_neg (Ne.symm he)] at ho
      exact ⟨he, m', hm', ho⟩
  refine h.step (fun _ => False) ⟨rfl, rfl⟩ (fun _ hb => hb) (fun _ hb => .inl hb) (fun o m' ho => ?_) (by simp) ⟨rfl, rfl, rfl⟩ (fun b hb _ => by simp [Array.getElem?_push, Nat.ne_of_lt hb]) (fun b hb => hb.elim) (fun ext o y hy hne => ?_) ?_ ?_ (fun b hb => by have := h.immlt b hb; simp; omega) h.fixlt'
  · simp only [Cx.with]
    by_cases he : o = nb
    · subst he; rw [hnb] at ho; cases ho
    · exact ⟨m', by simp [he, ho], m'.le_refl⟩
  · by_cases he : o = nb
    · subst he
      left
      rw [getD_setAt, if_pos rfl] at hy
      subst hy
      exact ⟨m, by simp [Cx.with], hr _ ext (by simp)⟩
    · right
      rw [getD_setAt, if_neg (Ne.symm he)] at hy
      exact ⟨hy, by simp [Cx.with, he], fun _ _ _ => id⟩
  · intro o l o' l' b h1 h2
    rcases hown o l b h1 with ⟨e1, e2, e3⟩ | ⟨hne, hA⟩ <;> rcases hown o' l' _ h2 with ⟨f1, f2, f3⟩ | ⟨hne', hB⟩
    · exact ⟨e1.trans f1.symm, e2.trans f2.symm⟩
    · have := (h.lt _ _ _ hB).1; omega
    · have := (h.lt _ _ _ hA).1; omega
    · exact h.uniq _ _ _ _ _ hA hB
  · intro o l b h1
    rcases hown o l b h1 with ⟨rfl, rfl, rfl⟩ | ⟨hne, h1⟩
    · exact ⟨by simp, fun hi => absurd (h.immlt _ hi) (by omega), fun hfx => absurd (h.fixlt' _ hfx) (by omega), fun hfx => absurd (h.othlt _ hfx) (by omega)⟩
    · obtain ⟨h2, h3, h4⟩ := h.lt _ _ _ h1
      exact ⟨by simp; omega, h3, h4⟩
def Does (P : Program) (o : Oper) (a : Act) (w : World) (w0 : World) (c : Cx) (nb : Nat) (v : AV) (os' : List Obj) : Prop :=
  ∃ n w' c' v', (execOp a.eval o).run P w = .ok n w' ∧ (n = .value v' ∨ (n = .skip ∧ v' = undef)) ∧ Store w0 c' os' w' ∧ Ext c w c' w' ∧ RepAV c' w' v v' ∧ ∀ q, c'.μ q ≠ none → c.μ q ≠ none ∨ (q = nb ∧ nb < os'.length)
section
variable {P : Program} {c : Cx} {w w0 : World} {nt : Nat} {ts : Ts} {a : Act} {os : List Obj} (hf : Frm c w nt ts a) (hst : Store w0 c os w)
include hf hst
omit hf in
theorem Yes.does {o : Oper} {v : AV} (h : Yes P o a w c v) (nb : Nat) : Does P o a w w0 c nb v os := by
  obtain ⟨v', h1, h2⟩ := h
  exact ⟨_, w, c, v', h1, .inl rfl, hst, Ext.refl _ _, h2, fun q hq => .inl hq⟩
omit hf hst in
theorem with_new {c : Cx} {nb : Nat} {m : Meta} {os1 : List Obj} {x : Obj} (q : Nat) (h : (c.with nb m).μ q ≠ none) : c.μ q ≠ none ∨ (q = nb ∧ nb < (setAt os1 nb x).length) := by
  by_cases he : q = nb
  · exact .inr ⟨he, by simp [setAt]; omega⟩
  · simp only [Cx.with, he, if_false] at h; exact .inl h
theorem d_alloc {o : Oper} {e : TypeId} {zs : List AV} {nb : Nat} (hnb : c.μ nb = none) (hz : zs? P e = some zs) (ho : o.op = .alloc e) : Does P o a w w0 c nb (.ptr nb 0) (setAt os nb (.box zs)) := by
  obtain ⟨i, z, hi, hzz, hr⟩ := zs_rep (c := c) (w := w) hz
  obtain ⟨h1, h2⟩ := hst.new hnb z.cells e (.box zs) ⟨some w.heap.size, 0, 0, 0, fun _ => none⟩ rfl rfl (fun w' ext hh => ⟨w.heap.size, z.cells.toList, e, rfl, by simpa using hh, hr.mono ext⟩)
  refine ⟨_, _, _, .pointer (some ⟨w.heap.size, 0, none⟩), ?_, .inl rfl, h1, h2, .ptr nb 0 w.heap.size _ (by simp [Cx.with]; rfl) rfl, with_new⟩
  simp [execOp, ho, Instr.alloc, zeroValue, typeInfo, hi, hzz, newVar, newRow]
theorem d_box {o : Oper} {e : TypeId} {x : Operand} {X' : X} {nb : Nat} (hnb : c.μ nb = none) (hx : cX x = some X') (hok : (getX ts X').okc = true) (ho : o.op = .box e x) : Does P o a w w0 c nb (.ptr nb 0) (setAt os nb (.box (getX ts X').cells)) := by
  have hr := cells_rep (rep_X hf hx) hok
  obtain ⟨h1, h2⟩ := hst.new hnb (a.eval x).cells e (.box (getX ts X').cells) ⟨some w.heap.size, 0, 0, 0, fun _ => none⟩ rfl rfl (fun w' ext hh => ⟨w.heap.size, (a.eval x).cells.toList, e, rfl, by simpa using hh, hr.mono ext⟩)
  refine ⟨_, _, _, .pointer (some ⟨w.heap.size, 0, none⟩), ?_, .inl rfl, h1, h2, .ptr nb 0 w.heap.size _ (by simp [Cx.with]; rfl) rfl, with_new⟩
  simp [execOp, ho, Instr.box, newVar, newRow]
omit hf hst in
theorem toDs_get : ∀ {vs : List AV} {ds : List D}, toDs vs = some ds → ds.length = vs.length ∧ ∀ (i : Nat) (d : D), ds[i]? = some d → ∃ v, vs[i]? = some v ∧ v.toD = some d
  | [], ds, h => by simp [toDs] at h; subst h; exact ⟨rfl, fun i d h => by simp at h⟩
  | v :: vs, ds, h => by
    unfold toDs at h
    split at h
    · simp at h
    · rename_i d hd
      split at h
      · rename_i l hl
        simp at h; subst h
        obtain ⟨h1, h2⟩ := toDs_get hl
        refine ⟨by simp [h1], fun i x hi => ?_⟩
        cases i with
        | zero => simp at hi; subst hi; exact ⟨v, by simp, hd⟩
        | succ i => simpa using h2 i x (by simpa using hi)
      · simp at h
omit hf hst in
theorem toD_rep {x : AV} {d : D} {v : Value} (h : RepAV c w x v) (hd : x.toD = some d) : RepD c.imm w d v := by
  cases h <;> simp [AV.toD] at hd
  · subst hd; exact .int _ _
  · subst hd; exact .bool _
  · subst hd; exact .str _
  · rename_i m xs h; cases m <;> simp [AV.toD] at hd; subst hd; exact h
  · subst hd; exact .nil _ _
omit hf hst in
theorem chunks_get {α : Type} (sz : Nat) : ∀ (n : Nat) (l : List α), n * sz ≤ l.length → (chunks sz n l).length = n ∧ ∀ (j : Nat) (el : List α), (chunks sz n l)[j]? = some el → el.length = sz ∧ ∀ i, i < sz → el[i]? = l[j * sz + i]?
  | 0, l, _ => ⟨rfl, fun j el h => by simp [chunks] at h⟩
  | n + 1, l, hl => by
    have hl' : n * sz + sz ≤ l.length := by rw [Nat.add_mul] at hl; omega
    obtain ⟨h1, h2⟩ := chunks_get sz n (l.drop sz) (by simp; omega)
    refine ⟨by simp [chunks, h1], fun j el hj => ?_⟩
    cases j with
    | zero =>
      simp [chunks] at hj; subst hj
      exact ⟨by simp; omega, fun i hi => by simp [List.getElem?_take, hi]⟩
    | succ j =>
      obtain ⟨h3, h4⟩ := h2 j el (by simpa [chunks] using hj)
      refine ⟨h3, fun i hi => ?_⟩
      rw [h4 i hi, List.getElem?_drop]
      congr 1
      rw [Nat.add_mul]; omega
omit hf hst in
theorem rep_row_new {c : Cx} {w' : World} {m : Meta} {sz : Nat} {xs : List (List D)} {vs : Array Value} {e : TypeId} {b cap : Nat} (hm : m = ⟨some b, sz, xs.length, cap, fun _ => none⟩) (hc : xs.length ≤ cap) (hh : w'.heap[b]? = some (.cells vs e (0, 0))) (hsz : vs.size = cap * sz)
    (hel : ∀ el ∈ xs, el.length = sz) (hr : ∀ (j : Nat) (el : List D) (i : Nat) (d : D), xs[j]? = some el → el[i]? = some d → ∃ v, vs[j * sz + i]? = some v ∧ RepD c.imm w' d v) : RepObj c w' m (.row sz 0 0 xs) := by
  subst hm
  refine ⟨rfl, rfl, hc, ⟨Nat.zero_le _, fun _ _ _ => rfl⟩, (fun h => nomatch h), hel, fun b' hb => ?_⟩
  cases hb
  exact ⟨vs, e, hh, hsz, fun j el i d hj hi => by simpa using hr j el i d hj hi⟩
omit hf hst in
theorem flatten_rep {zs : List AV} {zv : List Value} (h : RepAVs c w zs zv) : ∀ n, RepAVs c w (List.replicate n zs).flatten (List.replicate n zv).flatten
  | 0 => .nil
  | n + 1 => by simp only [List.replicate_succ, List.flatten_cons]; exact h.append (flatten_rep h n)
omit hf hst in
theorem made_flat (z : Array Value) (n : Nat) : ((Array.range (n * z.size)).map (z[· % z.size]!)).toList = (List.replicate n z.toList).flatten := by
  apply List.ext_getElem?
  intro i
  by_cases hi : i < n * z.size
  · have hz : 0 < z.size := by rcases Nat.eq_zero_or_pos z.size with h | h; · rw [h] at hi; simp at hi
                               · exact h
    have key : ∀ (n i : Nat) (l : List Value), i < n * l.length → (List.replicate n l).flatten[i]? = l[i % l.length]? := by
      intro n
      induction n with
      | zero => intro i l h; simp at h
      | succ n ih =>
        intro i l h
        simp only [List.replicate_succ, List.flatten_cons]
        by_cases h1 : i < l.length
        · rw [List.getElem?_append_left h1, Nat.mod_eq_of_lt h1]
        · have e := ih (i - l.length) l (by rw [Nat.add_mul, Nat.one_mul] at h; omega)
          rw [List.getElem?_append_right (by omega), e, Nat.mod_eq_sub_mod (a := i) (by omega)]
    rw [key n i z.toList (by simpa using hi)]
    have hm : i % z.size < z.size := Nat.mod_lt _ hz
    simp [hi, getElem!_def, hm]
  · rw [List.getElem?_eq_none (by simp; omega), List.getElem?_eq_none (by simp; omega)]
theorem fill_parts {zs cs : List AV} {zv : Array Value} (place : Nat → Option (Nat × Nat)) {parts : List (Nat × Operand)} {ps : List (Nat × Nat × X)} (hps : cParts place parts = some ps) (hz : RepAVs c w zs zv.toList) (hfl : fillAV zs (ps.map fun p => (p.1, p.2.1, getX ts p.2.2)) = some cs) :
    ∃ out, Instr.fill place zv (parts.map fun p => (p.1, a.eval p.2)) = some out ∧ RepAVs c w cs out.toList := fill_rep hf hst place parts ps zs cs zv hps hz hfl
theorem mks_run {o : Oper} {t e : TypeId} {len sz : Nat} {parts : Array (Nat × Operand)} {zs cs : List AV} {ps : List (Nat × Nat × X)} (hu : P.underlying t = some (.slice e)) (hsz : size? P e = some sz) (hbig : ¬ len * sz > 2 ^ 24) (hz : zs? P e = some zs) (hzl : zs.length = sz) (hps : cParts (fun i => some (i * sz, sz)) parts.toList = some ps)
    (ho : o.op = .buildSlice t len parts) (hfl : fillAV ((List.replicate len zs).flatten) (ps.map fun p => (p.1, p.2.1, getX ts p.2.2)) = some cs) :
    ∃ out, (execOp a.eval o).run P w = .ok (.value (.slice (some ⟨w.heap.size, 0, none⟩) len len)) { w with heap := w.heap.push (.cells out e (0, 0)) } ∧ RepAVs c w cs out.toList := by
  obtain ⟨i, z, hi, hzz, hr⟩ := zs_rep (c := c) (w := w) hz
  have hzs : z.cells.size = sz := by have := hr.length; simp at this; omega
  have hi' : i.size = sz := by simpa [size?, hi] using hsz
  have hz0 : RepAVs c w ((List.replicate len zs).flatten) ((Array.range (len * sz)).map (fun x => (if len * sz = 0 then #[] else z.cells)[x % (if len * sz = 0 then #[] else z.cells).size]!)).toList := by
    by_cases h0 : len * sz = 0
    · rw [if_pos h0]
      have : (List.replicate len zs).flatten = [] := by
        rcases Nat.mul_eq_zero.1 h0 with h | h
        · simp [h]
        · have : zs = [] := List.eq_nil_of_length_eq_zero (by omega)
          subst this
          clear hfl hz hr hzl
          induction len with
          | zero => rfl
          | succ n ih => simp [List.replicate_succ]
      rw [this, h0]
      simp
      exact .nil
    · rw [if_neg h0]
      have := made_flat z.cells len
      rw [show len * sz = len * z.cells.size by rw [hzs], this]
      exact flatten_rep hr len
  obtain ⟨out, hout, hro⟩ := fill_parts hf hst (fun i => some (i * sz, sz)) hps hz0 hfl
  refine ⟨out, ?_, hro⟩
  by_cases h0 : len * sz = 0
  · simp only [h0, if_true] at hout
    simp [execOp, ho, Instr.buildSlice, run_underlying hu, sizeOf, typeInfo, hi, hi', hbig, h0, newRow]
    try simp at hout
    rw [hout]
    simp
  · simp only [h0, if_false] at hout
    simp [execOp, ho, Instr.buildSlice, run_underlying hu, sizeOf, typeInfo, hi, hi', hbig, h0, zeroValue, hzz, newRow]
    try simp at hout
    rw [hout]
    simp
theorem d_mks {o : Oper} {t e : TypeId} {len sz nb : Nat} {parts : Array (Nat × Operand)} {zs cs : List AV} {ps : List (Nat × Nat × X)} (hnb : c.μ nb = none) (hu : P.underlying t = some (.slice e)) (hsz : size? P e = some sz) (hbig : ¬ len * sz > 2 ^ 24) (hz : zs? P e = some zs) (hzl : zs.length = sz)
    (hps : cParts (fun i => some (i * sz, sz)) parts.toList = some ps) (ho : o.op = .buildSlice t len parts) (hfl : fillAV ((List.replicate len zs).flatten) (ps.map fun p => (p.1, p.2.1, getX ts p.2.2)) = some cs) (hcl : cs.length = len * sz) :
    (∀ ds, toDs cs = some ds → Does P o a w w0 c nb (.hw nb) (setAt os nb (.row sz 0 0 (chunks sz len ds)))) ∧ Does P o a w w0 c nb (.hs nb 0 len) (setAt os nb (.box cs)) := by
  obtain ⟨out, hrun, hro⟩ := mks_run hf hst hu hsz hbig hz hzl hps ho hfl
  have hosz : out.size = len * sz := by have := hro.length; simp at this; omega
  constructor
  · intro ds hds
    obtain ⟨hdl, hdg⟩ := toDs_get hds
    obtain ⟨hcl1, hcg⟩ := chunks_get sz len ds (by omega)
    obtain ⟨h1, h2⟩ := hst.new hnb out e (.row sz 0 0 (chunks sz len ds)) ⟨some w.heap.size, sz, (chunks sz len ds).length, len, fun _ => none⟩ rfl rfl (fun w' ext hh => by
      refine rep_row_new (c := c.with nb _) rfl (by omega) hh hosz (fun el he => by obtain ⟨j, hj⟩ := List.getElem?_of_mem he; exact (hcg j el hj).1) (fun j el i d hj hi => ?_)
      obtain ⟨g1, g2⟩ := hcg j el hj
      have hi' : i < sz := by rw [← g1]; exact (List.getElem?_eq_some_iff.1 hi).1
      rw [g2 i hi'] at hi
      obtain ⟨v, hv, hvd⟩ := hdg _ _ hi
      obtain ⟨u, hu, hur⟩ := hro.get _ _ hv
      exact ⟨u, by simpa using hu, (toD_rep (hur.mono ext) hvd)⟩)
    refine ⟨_, _, _, .slice (some ⟨w.heap.size, 0, none⟩) len len, hrun, .inl rfl, h1, h2, ?_, with_new⟩
    have := RepAV.hw (c := c.with nb ⟨some w.heap.size, sz, (chunks sz len ds).length, len, fun _ => none⟩) (w := { w with heap := w.heap.push (.cells out e (0, 0)) }) nb _ (by simp [Cx.with]; rfl)
    simpa [mk0, hcl1] using this
  · obtain ⟨h1, h2⟩ := hst.new hnb out e (.box cs) ⟨some w.heap.size, sz, 0, 0, fun _ => none⟩ rfl rfl (fun w' ext hh => ⟨w.heap.size, out.toList, e, rfl, by simpa using hh, hro.mono ext⟩)
    refine ⟨_, _, _, .slice (some ⟨w.heap.size, 0, none⟩) len len, hrun, .inl rfl, h1, h2, .hs nb 0 len _ _ _ (by simp [Cx.with]; rfl) (Nat.le_refl _) (fun _ => ⟨w.heap.size, rfl, by simp⟩), with_new⟩
theorem d_mksl {o : Oper} {t e : TypeId} {nb : Nat} {l l' : Operand} {L L' : X} {i : TypeInfo} {zs : List AV} {ds : List D} {k k' : IntKind} {n : Int} (hnb : c.μ nb = none) (hu : P.underlying t = some (.slice e)) (hi : P.info? e = some i) (hz : zs? P e = some zs) (hzl : zs.length = i.size) (hl : cX l = some L) (hl' : cX l' = some L')
    (ho : o.op = .makeSlice t l l') (hL : getX ts L = .int k n) (hL' : getX ts L' = .int k' n) (hds : toDs zs = some ds) (h0 : 0 ≤ n) (hb : n * i.bytes ≤ 140737488355328) (hn : n ≤ 9223372036854775807) :
    Does P o a w w0 c nb (.hw nb) (setAt os nb (.row i.size 0 0 (List.replicate n.toNat ds))) := by
  obtain ⟨i', z, hi', hzz, hr⟩ := zs_rep (c := c) (w := w) hz
  rw [hi] at hi'; cases hi'
  have hzs : z.cells.size = i.size := by have := hr.length; simp at this; omega
  have r1 := rep_X hf hl; rw [hL] at r1
  have r2 := rep_X hf hl'; rw [hL'] at r2
  generalize hv1 : a.eval l = v1 at r1
  generalize hv2 : a.eval l' = v2 at r2
  cases r1; cases r2
  have hw : IntKind.i64.wrap n = n := by simp [IntKind.wrap, IntKind.bits, IntKind.signed]; omega
  obtain ⟨m, rfl⟩ := Int.eq_ofNat_of_zero_le h0
  obtain ⟨hdl, hdg⟩ := toDs_get hds
  have hrun : (execOp a.eval o).run P w = .ok (.value (.slice (some ⟨w.heap.size, 0, none⟩) m m)) { w with heap := w.heap.push (.cells ((Array.range (m * i.size)).map (fun x => (if m * i.size = 0 then #[] else z.cells)[x % (if m * i.size = 0 then #[] else z.cells).size]!)) e (0, 0)) } := by
    have e1 : ¬ (281474976710656 < (i.bytes : Int) * (m : Int)) := by
      have : (i.bytes : Int) * (m : Int) = (m : Int) * i.bytes := Int.mul_comm _ _
      omega
    have e2 : ¬ ((m : Int) < 0) := by omega
    by_cases hz0 : m * i.size = 0
    · simp [execOp, ho, hv1, hv2, Instr.makeSlice, run_underlying hu, asInt, asIntOf, typeInfo, hi, hw, e1, e2, sizeOf, hz0, newRow]
    · simp [execOp, ho, hv1, hv2, Instr.makeSlice, run_underlying hu, asInt, asIntOf, typeInfo, hi, hw, e1, e2, sizeOf, hz0, newRow, zeroValue, hzz]
  generalize hV : ((Array.range (m * i.size)).map (fun x => (if m * i.size = 0 then #[] else z.cells)[x % (if m * i.size = 0 then #[] else z.cells).size]!)) = V at hrun
  have hVs : V.size = m * i.size := by rw [← hV]; simp
  have hVg : ∀ (j q : Nat) (v : Value), j < m → q < i.size → z.cells[q]? = some v → V[j * i.size + q]? = some v := by
    intro j q v hj hq hv
    have hlt : j * i.size + q < m * i.size := by
      have : (j + 1) * i.size ≤ m * i.size := Nat.mul_le_mul_right _ hj
      rw [Nat.add_mul] at this; omega
    have hne : ¬ m * i.size = 0 := by omega
    rw [← hV]
    simp only [hne, if_false, Array.getElem?_map, Array.getElem?_range, hlt, if_true, Option.map_some, hzs]
    have : (j * i.size + q) % i.size = q := by rw [Nat.mul_comm, Nat.mul_add_mod]; exact Nat.mod_eq_of_lt hq
    rw [this, getElem!_def, hv]
  obtain ⟨h1, h2⟩ := hst.new hnb V e (.row i.size 0 0 (List.replicate m ds)) ⟨some w.heap.size, i.size, (List.replicate m ds).length, m, fun _ => none⟩ rfl rfl (fun w' ext hh => by
    refine rep_row_new (c := c.with nb _) rfl (by simp) hh hVs (fun el he => by rw [List.eq_of_mem_replicate he, hdl, hzl]) (fun j el q d hj hq => ?_)
    have hjm : j < m := by have := (List.getElem?_eq_some_iff.1 hj).1; simpa using this
    have hel : el = ds := List.eq_of_mem_replicate (List.mem_of_getElem? hj)
    subst hel
    have hqs : q < i.size := by have := (List.getElem?_eq_some_iff.1 hq).1; omega
    obtain ⟨v, hv, hvd⟩ := hdg _ _ hq
    obtain ⟨u, hu', hur⟩ := hr.get _ _ hv
    exact ⟨u, hVg j q u hjm hqs (by simpa using hu'), toD_rep (hur.mono ext) hvd⟩)
  refine ⟨_, _, _, .slice (some ⟨w.heap.size, 0, none⟩) m m, hrun, .inl rfl, h1, h2, ?_, with_new⟩
  have := RepAV.hw (c := c.with nb ⟨some w.heap.size, i.size, (List.replicate m ds).length, m, fun _ => none⟩) (w := { w with heap := w.heap.push (.cells V e (0, 0)) }) nb _ (by simp [Cx.with]; rfl)
  simpa [mk0] using this
end
end Go.Gn

namespace Go.Gn
open Go
set_option linter.unusedVariables false
set_option linter.unusedSimpArgs false
set_option linter.unusedSectionVars false
theorem Store.upd {w0 : World} {c : Cx} {os : List Obj} {w : World} (h : Store w0 c os w) {o b : Nat} {l : Option Nat} (hown : Owns c.μ os o l b) (vs : Array Value) {x : Obj}
    (hsub : ∀ l b, Owns c.μ (os.set o x) o l b → Owns c.μ os o l b) (hr : Ext c w c (w.setRow b vs) → ∃ m, c.μ o = some m ∧ RepObj c (w.setRow b vs) m x) :
    Store w0 c (os.set o x) (w.setRow b vs) ∧ Ext c w c (w.setRow b vs) := by
  have hsub' : ∀ q l b, Owns c.μ (os.set o x) q l b → Owns c.μ os q l b := by
    intro q l' b' hq
    by_cases he : o = q
    · subst he; exact hsub _ _ hq
    · obtain ⟨m, hm, hq⟩ := hq
      rw [getD_set, if_neg (fun hh => he hh.1)] at hq
      exact ⟨m, hm, hq⟩
  refine h.step (fun b' => b' = b) ⟨rfl, rfl⟩ (fun _ hb => hb) (fun _ hb => .inl hb) (fun _ m hm => ⟨m, hm, m.le_refl⟩) (by simp) ⟨rfl, rfl, rfl⟩ (fun b' _ hb => setRow_other w b b' vs hb) (fun b' hb => ⟨o, l, by rw [hb]; exact hown⟩) (fun e q y hy hne => ?_) (fun q l q' l' b' h1 h2 => h.uniq _ _ _ _ _ (hsub' _ _ _ h1) (hsub' _ _ _ h2))
    (fun q l b' hq => by simpa using h.lt _ _ _ (hsub' _ _ _ hq)) (fun b' hb => by simpa using h.immlt b' hb) h.fixlt'
  by_cases he : o = q
  · subst he
    by_cases hl : o < os.length
    · rw [getD_set, if_pos ⟨rfl, hl⟩] at hy
      subst hy
      exact .inl (hr e)
    · obtain ⟨m, hm, ho⟩ := hown
      rw [List.getD_eq_getElem?_getD, List.getElem?_eq_none (Nat.le_of_not_lt hl)] at ho
      simp at ho
  · right
    rw [getD_set, if_neg (fun hh => he hh.1)] at hy
    exact ⟨hy, rfl, fun l' b' hq hb => he (by subst hb; exact (h.uniq _ _ _ _ _ hown hq).1)⟩
theorem RepN.toD {imm S : Nat → Prop} {w : World} {m : Meta} {j : Nat} {d : D} {v : Value} (h : RepN imm w m j d v) (hs : ∀ b, imm b → S b) (hn : ∀ b, m.nest j = some b → S b) : RepD S w d v := by
  obtain ⟨ys, rfl, h⟩ := h
  rcases h with ⟨_, rfl, A, cap, rfl⟩ | ⟨b, cap, vs, e, hnb, rfl, hh, hc, hl, hr⟩
  · exact .nil _ _
  · rcases ys with _ | ⟨y, ys⟩
    · exact .nil _ _
    · refine .sl _ b 0 1 cap (fun j _ => vs.getD j undef) (by simp) (hn b hnb) hc (fun j el hj => ?_) (fun j el i d hj hi => ?_)
      · obtain ⟨d', u, rfl, hu, _⟩ := hr j el hj
        refine ⟨rfl, fun i d hi => ?_⟩
        have : i = 0 := by have := (List.getElem?_eq_some_iff.1 hi).1; simp at this; omega
        subst this
        unfold cellAt World.cell?
        simp [hh, hu]
      · obtain ⟨d', u, rfl, hu, hd⟩ := hr j el hj
        have : i = 0 := by have := (List.getElem?_eq_some_iff.1 hi).1; simp at this; omega
        subst this
        simp at hi; subst hi
        simp [hu]
        exact hd.mono (Keep.refl _ _) hs
theorem RepRow.flat {imm S : Nat → Prop} {w : World} {m : Meta} {sz k c0 : Nat} {xs : List (List D)} (h : RepRow imm w m sz k c0 xs) (hs : ∀ b, imm b → S b) (hn : ∀ j b, j < k → m.nest j = some b → S b) : RepRow S w m sz 0 sz xs := by
  obtain ⟨h1, h2, h3, h4, h5, h6, h7⟩ := h
  refine ⟨h1, h2, h3, ⟨Nat.zero_le _, fun h => absurd h (Nat.lt_irrefl _)⟩, h5, h6, fun b hb => ?_⟩
  obtain ⟨vs, e, hh, hsz, hr⟩ := h7 b hb
  refine ⟨vs, e, hh, hsz, fun j el i d hj hi => ?_⟩
  obtain ⟨v, hv, hrep⟩ := hr j el i d hj hi
  refine ⟨v, hv, ?_⟩
  rw [if_neg (by omega)]
  split at hrep
  · rename_i hc; exact hrep.toD hs (fun b hb => hn j b hc.1 hb)
  · exact hrep.mono (Keep.refl _ _) hs
theorem RepRow.toD {imm S : Nat → Prop} {w : World} {m : Meta} {sz k c0 : Nat} {xs : List (List D)} (h : RepRow imm w m sz k c0 xs) (hs : ∀ b, imm b → S b) (hb : ∀ b, m.blk = some b → S b) (hn : ∀ j b, j < k → m.nest j = some b → S b) :
    RepD S w (.sl xs) (.slice (m.blk.map mk0) m.len m.cap) := by
  obtain ⟨h1, h2, h3, h4, h5, h6, h7⟩ := h.flat hs hn
  rw [h2]
  cases xs with
  | nil => exact .nil _ _
  | cons x xs =>
    cases hbk : m.blk with
    | none => have := h5 hbk; simp at h2; omega
    | some b =>
      obtain ⟨vs, e, hh, hsz, hr⟩ := h7 b hbk
      refine .sl _ b 0 sz m.cap (fun j i => vs.getD (j * sz + i) undef) (by simp) (hb b hbk) (by omega) (fun j el hj => ⟨h6 el (List.mem_of_getElem? hj), fun i d hi => ?_⟩) (fun j el i d hj hi => ?_)
      · obtain ⟨v, hv, _⟩ := hr j el i d hj hi
        unfold cellAt World.cell?
        simp [hh, hv]
      · obtain ⟨v, hv, hd⟩ := hr j el i d hj hi
        rw [if_neg (by omega)] at hd
        simpa [hv] using hd
def Cx.ice (c : Cx) (os : List Obj) (o : Nat) : Cx := { c with imm := fun b => c.imm b ∨ ∃ l, Owns c.μ os o l b }
def freeObj : Obj → Bool
  | .frz _ _ => true
  | .dead => true
  | _ => false
theorem Owns.not_free {μ : Mu} {os : List Obj} {o : Nat} {l : Option Nat} {b : Nat} (h : Owns μ os o l b) : freeObj (os.getD o .dead) = false := by
  obtain ⟨m, hm, ho⟩ := h
  generalize os.getD o .dead = x at ho
  cases x <;> cases l <;> first | rfl | simp at ho
theorem Owns.of_set {μ : Mu} {os : List Obj} {o q : Nat} {x : Obj} {l : Option Nat} {b : Nat} (h : Owns μ (os.set o x) q l b) (hx : freeObj x = true) : q ≠ o ∧ Owns μ os q l b := by
  have hnf := h.not_free
  obtain ⟨m, hm, ho⟩ := h
  rw [getD_set] at hnf ho
  by_cases he : o = q
  · subst he
    exfalso
    split at hnf
    · rw [hx] at hnf; cases hnf
    · rename_i hl
      rw [List.getD_eq_getElem?_getD, List.getElem?_eq_none (by omega)] at hnf
      simp [freeObj] at hnf
  · rw [if_neg (fun hh => he hh.1)] at ho
    exact ⟨Ne.symm he, m, hm, ho⟩
theorem Store.freeze {w0 : World} {c : Cx} {os : List Obj} {w : World} (h : Store w0 c os w) {o : Nat} {m : Meta} (hm : c.μ o = some m) {sz k c0 : Nat} {xs : List (List D)} (hx : os.getD o .dead = .row sz k c0 xs) :
    Store w0 (c.ice os o) (os.set o (.frz sz xs)) w ∧ Ext c w (c.ice os o) w := by
  have hsub : ∀ q l b, Owns c.μ (os.set o (.frz sz xs)) q l b → q ≠ o ∧ Owns c.μ os q l b := fun q l b hq => hq.of_set rfl
  refine h.step (fun _ => False) ⟨rfl, rfl⟩ (fun _ hb => .inl hb) (fun _ hb => hb.imp id (fun ⟨l, h⟩ => ⟨o, l, h⟩)) (fun _ m hm => ⟨m, hm, m.le_refl⟩) (Nat.le_refl _) ⟨rfl, rfl, rfl⟩ (fun _ _ _ => rfl) (fun _ hb => hb.elim) (fun e q y hy hne => ?_) (fun q l q' l' b' h1 h2 => h.uniq _ _ _ _ _ (hsub _ _ _ h1).2 (hsub _ _ _ h2).2)
    (fun q l b' hq => ?_) (fun b' hb => ?_) h.fixlt'
  · by_cases he : o = q
    · subst he
      left
      have hl : o < os.length := by
        rcases Nat.lt_or_ge o os.length with hl | hl
        · exact hl
        · rw [List.getD_eq_getElem?_getD, List.getElem?_eq_none hl] at hx; simp at hx
      rw [getD_set, if_pos ⟨rfl, hl⟩] at hy
      subst hy
      obtain ⟨m', hm', hr⟩ := h.obj o _ hx (by simp)
      rw [hm] at hm'; cases hm'
      refine ⟨m, hm, RepRow.flat hr (fun b hb => .inl hb) (fun j b hj hb => .inr ⟨some j, m, hm, by rw [hx]; exact ⟨hj, hb⟩⟩), fun b hb => .inr ⟨none, m, hm, by rw [hx]; exact hb⟩⟩
    · right
      rw [getD_set, if_neg (fun hh => he hh.1)] at hy
      exact ⟨hy, rfl, fun _ _ _ => id⟩
  · obtain ⟨hne, ho⟩ := hsub _ _ _ hq
    obtain ⟨h1, h2, h3⟩ := h.lt _ _ _ ho
    exact ⟨h1, fun hh => hh.elim h2 (fun ⟨l', hl'⟩ => hne (h.uniq _ _ _ _ _ ho hl').1), h3⟩
  · rcases hb with hb | ⟨l, hl⟩
    · exact h.immlt b' hb
    · exact (h.lt _ _ _ hl).1
structure Frz (w0 : World) (c : Cx) (os : List Obj) (w : World) (c' : Cx) (os' : List Obj) : Prop where
  st : Store w0 c' os' w
  ext : Ext c w c' w
  mu : c'.μ = c.μ
  row : ∀ o sz k c0 xs, os'.getD o .dead = .row sz k c0 xs → os.getD o .dead = .row sz k c0 xs
theorem Frz.trans {w0 : World} {c c1 c2 : Cx} {os os1 os2 : List Obj} {w : World} (h : Frz w0 c os w c1 os1) (h' : Frz w0 c1 os1 w c2 os2) : Frz w0 c os w c2 os2 :=
  ⟨h'.st, h.ext.trans h'.ext, h'.mu.trans h.mu, fun o sz k c0 xs hx => h.row o sz k c0 xs (h'.row o sz k c0 xs hx)⟩
theorem freeze_rep {w0 : World} {c : Cx} {os : List Obj} {w : World} (h : Store w0 c os w) {x : AV} {v : Value} (hr : RepAV c w x v) {d : D} {os' : List Obj} (hf : Gn.freeze x os = some (d, os')) :
    ∃ c', Frz w0 c os w c' os' ∧ RepD c'.imm w d v := by
  have rest : (x.toD.map fun d => (d, os)) = some (d, os') → ∃ c', Frz w0 c os w c' os' ∧ RepD c'.imm w d v := by
    intro hh
    simp only [Option.map_eq_some_iff] at hh
    obtain ⟨d', hd, he⟩ := hh
    cases he
    exact ⟨c, ⟨h, Ext.refl _ _, rfl, fun _ _ _ _ _ hx => hx⟩, toD_rep hr hd⟩
  cases x
  case hw o =>
    simp only [Gn.freeze] at hf
    cases hr with
    | hw _ m hm =>
    split at hf
    · rename_i sz k c0 xs hx
      simp at hf
      obtain ⟨rfl, rfl⟩ := hf
      obtain ⟨h1, h2⟩ := h.freeze hm hx
      refine ⟨_, ⟨h1, h2, rfl, fun q sz k c0 xs hq => ?_⟩, ?_⟩
      · rw [getD_set] at hq
        split at hq
        · simp at hq
        · exact hq
      · obtain ⟨m', hm', hr⟩ := h.obj o _ hx (by simp)
        rw [hm] at hm'; cases hm'
        exact RepRow.toD hr (fun b hb => .inl hb) (fun b hb => .inr ⟨none, m, hm, by rw [hx]; exact hb⟩) (fun j b hj hb => .inr ⟨some j, m, hm, by rw [hx]; exact ⟨hj, hb⟩⟩)
    · rename_i sz xs hx
      simp at hf
      obtain ⟨rfl, rfl⟩ := hf
      obtain ⟨m', hm', hr⟩ := h.obj o _ hx (by simp)
      rw [hm] at hm'; cases hm'
      exact ⟨c, ⟨h, Ext.refl _ _, rfl, fun _ _ _ _ _ hx => hx⟩, RepRow.toD hr.1 (fun b hb => hb) hr.2 (fun j b hj _ => absurd hj (Nat.not_lt_zero j))⟩
    · simp at hf
  all_goals exact rest hf
theorem freezeL_rep {w0 : World} {w : World} : ∀ {cs : List AV} {vs : List Value} {c : Cx} {os : List Obj} (h : Store w0 c os w) (hr : RepAVs c w cs vs) {ds : List D} {os' : List Obj} (hf : freezeL cs os = some (ds, os')),
    ∃ c', Frz w0 c os w c' os' ∧ ds.length = cs.length ∧ ∀ (i : Nat) (d : D), ds[i]? = some d → ∃ v, vs[i]? = some v ∧ RepD c'.imm w d v
  | [], _, c, os, h, .nil, ds, os', hf => by
    simp [freezeL] at hf
    obtain ⟨rfl, rfl⟩ := hf
    exact ⟨c, ⟨h, Ext.refl _ _, rfl, fun _ _ _ _ _ hx => hx⟩, rfl, fun i d hd => by simp at hd⟩
  | x :: cs, _, c, os, h, .cons _ v _ vs h1 h2, ds, os', hf => by
    unfold freezeL at hf
    split at hf
    · simp at hf
    · rename_i d os1 hd
      split at hf
      · simp at hf
      · rename_i ds2 os2 hd2
        simp at hf
        obtain ⟨rfl, rfl⟩ := hf
        obtain ⟨c1, f1, r1⟩ := freeze_rep h h1 hd
        obtain ⟨c2, f2, hl, r2⟩ := freezeL_rep f1.st (h2.mono f1.ext) hd2
        refine ⟨c2, f1.trans f2, by simp [hl], fun i d' hi => ?_⟩
        cases i with
        | zero => simp at hi; subst hi; exact ⟨v, by simp, r1.mono (Keep.refl _ _) f2.ext.imm⟩
        | succ i => simpa using r2 i d' (by simpa using hi)
end Go.Gn

namespace Go.Gn
open Go
set_option linter.unusedVariables false
set_option linter.unusedSimpArgs false
set_option linter.unusedSectionVars false
theorem RepN.congr {imm : Nat → Prop} {w : World} {m m' : Meta} {j : Nat} {d : D} {v : Value} (h : RepN imm w m j d v) (hn : m'.nest j = m.nest j) : RepN imm w m' j d v := by
  unfold RepN at h ⊢
  rw [hn]; exact h
theorem scrub_rep {S : Nat → Prop} {w : World} {d : D} {v : Value} (h : RepD S w d v) : RepD S w d.scrub v := by
  cases d with
  | sl xs => exact .top _ h.one
  | _ => exact h
theorem RepRow.set {imm : Nat → Prop} {w w' : World} {m m' : Meta} {sz k k' c0 : Nat} {xs : List (List D)} (h : RepRow imm w m sz k c0 xs) {b : Nat} {vs vs' : Array Value} {e : TypeId} (hb : m.blk = some b) (hh : w.heap[b]? = some (.cells vs e (0, 0)))
    {j : Nat} {el el' : List D} (hj : xs[j]? = some el) (hel : el'.length = sz) (hh' : w'.heap[b]? = some (.cells vs' e (0, 0))) (hsz : vs'.size = vs.size) (hother : ∀ i, ¬ (j * sz ≤ i ∧ i < j * sz + sz) → vs'[i]? = vs[i]?)
    (hm : m'.blk = m.blk ∧ m'.sz = m.sz ∧ m'.len = m.len ∧ m'.cap = m.cap) (hk' : k' ≤ xs.length ∧ (c0 < sz → ∀ j, k' ≤ j → m'.nest j = none)) (hnest : ∀ q, q ≠ j → (q < k' ↔ q < k) ∧ (q < k → m'.nest q = m.nest q))
    (hnew : ∀ i d, el'[i]? = some d → ∃ u, vs'[j * sz + i]? = some u ∧ (if j < k' ∧ i = c0 then RepN imm w' m' j d u else RepD imm w' d u)) (hk : Keep imm w w') (hn : ∀ q b, q ≠ j → q < k → m.nest q = some b → w'.heap[b]? = w.heap[b]?) : RepRow imm w' m' sz k' c0 (xs.set j el') := by
  obtain ⟨h1, h2, h3, h4, h5, h6, h7⟩ := h
  obtain ⟨m1, m2, m3, m4⟩ := hm
  refine ⟨m2.trans h1, by rw [m3]; simpa using h2, by rw [m3, m4]; exact h3, by simpa using hk', by rw [m1, m4]; exact h5, fun x hx => ?_, fun b' hb' => ?_⟩
  · obtain ⟨q, hq⟩ := List.getElem?_of_mem hx
    rw [List.getElem?_set] at hq
    split at hq
    · split at hq
      · cases hq; exact hel
      · cases hq
    · exact h6 x (List.mem_of_getElem? hq)
  · rw [m1, hb] at hb'; cases hb'
    obtain ⟨vs1, e1, hh1, hsz1, hr⟩ := h7 b hb
    rw [hh] at hh1; cases hh1
    refine ⟨vs', e, hh', by rw [hsz, m4]; exact hsz1, fun q x i d hq hi => ?_⟩
    rw [List.getElem?_set] at hq
    split at hq
    · rename_i hqj
      subst hqj
      split at hq
      · cases hq; exact hnew i d hi
      · cases hq
    · rename_i hqj
      obtain ⟨v, hv, hrep⟩ := hr q x i d hq hi
      have hil : i < sz := by rw [← h6 x (List.mem_of_getElem? hq)]; exact (List.getElem?_eq_some_iff.1 hi).1
      refine ⟨v, ?_, ?_⟩
      · rw [hother, hv]
        rintro ⟨h8, h9⟩
        rcases Nat.lt_or_gt_of_ne hqj with h | h
        · have : (j + 1) * sz ≤ q * sz := Nat.mul_le_mul_right _ h
          rw [Nat.add_mul] at this; omega
        · have : (q + 1) * sz ≤ j * sz := Nat.mul_le_mul_right _ h
          rw [Nat.add_mul] at this; omega
      · obtain ⟨hn1, hn2⟩ := hnest q (Ne.symm hqj)
        split at hrep
        · rename_i hc
          rw [if_pos ⟨hn1.2 hc.1, hc.2⟩]
          exact (hrep.mono hk (fun _ h => h) (fun b hb => hn q b (Ne.symm hqj) hc.1 hb)).congr (hn2 hc.1)
        · rename_i hc
          rw [if_neg (fun h => hc ⟨hn1.1 h.1, h.2⟩)]
          exact hrep.mono hk (fun _ h => h)
theorem splice_length {α : Type} {cs vs : List α} {off : Nat} (h : off + vs.length ≤ cs.length) : (splice cs off vs).length = cs.length := by
  simp [splice]; omega
theorem splice_get {α : Type} {cs vs : List α} {off : Nat} (h : off + vs.length ≤ cs.length) (i : Nat) : (splice cs off vs)[i]? = if off ≤ i ∧ i < off + vs.length then vs[i - off]? else cs[i]? := by
  simp only [splice, List.getElem?_append, List.length_append, List.length_take, List.getElem?_take, List.getElem?_drop]
  have : min off cs.length = off := by omega
  simp only [this]
  by_cases h1 : i < off
  · simp [h1, show i < off + vs.length by omega, show ¬ off ≤ i by omega]
  · by_cases h2 : i < off + vs.length
    · simp [h1, h2, show off ≤ i by omega]
    · simp [h1, h2]
      congr 1; omega
theorem cells_ok {v : AV} (h : v.cells.all AV.one = true) : v.okc = true := by
  cases v <;> first | rfl | (simp [AV.cells, AV.one] at h; done)
theorem toD_one {v : AV} {d : D} (h : v.toD = some d) : v.one = true := by
  cases v <;> first | rfl | (simp [AV.toD] at h; done)
theorem freezeL_one : ∀ {cs : List AV} {os : List Obj} {r : List D × List Obj}, freezeL cs os = some r → cs.all AV.one = true
  | [], _, _, _ => rfl
  | x :: cs, os, r, h => by
    unfold freezeL at h
    split at h
    · simp at h
    · rename_i d os1 hd
      split at h
      · simp at h
      · rename_i ds2 os2 hd2
        simp only [List.all_cons, Bool.and_eq_true]
        refine ⟨?_, freezeL_one hd2⟩
        cases x
        case hw => rfl
        all_goals
          simp only [Gn.freeze, Option.map_eq_some_iff] at hd
          obtain ⟨d', hd, _⟩ := hd
          exact toD_one hd
theorem getD_lt {os : List Obj} {q : Nat} {x : Obj} (h : os.getD q .dead = x) (hx : x ≠ .dead) : q < os.length := by
  rcases Nat.lt_or_ge q os.length with hl | hl
  · exact hl
  · rw [List.getD_eq_getElem?_getD, List.getElem?_eq_none hl] at h; simp at h; exact absurd h.symm hx
theorem own_box {μ : Mu} {os : List Obj} {q : Nat} {cs cs' : List AV} (h : os.getD q .dead = .box cs) : ∀ l b, Owns μ (os.set q (.box cs')) q l b → Owns μ os q l b := by
  rintro l b ⟨m, hm, ho⟩
  refine ⟨m, hm, ?_⟩
  rw [getD_set, if_pos ⟨rfl, getD_lt h (by simp)⟩] at ho
  rw [h]
  cases l <;> exact ho
theorem own_row {μ : Mu} {os : List Obj} {q sz k c0 sz' c0' : Nat} {xs xs' : List (List D)} (h : os.getD q .dead = .row sz k c0 xs) : ∀ l b, Owns μ (os.set q (.row sz' k c0' xs')) q l b → Owns μ os q l b := by
  rintro l b ⟨m, hm, ho⟩
  refine ⟨m, hm, ?_⟩
  rw [getD_set, if_pos ⟨rfl, getD_lt h (by simp)⟩] at ho
  rw [h]
  cases l <;> exact ho
theorem RepRow.c0 {imm : Nat → Prop} {w : World} {m : Meta} {sz k c0 c1 : Nat} {xs : List (List D)} (h : RepRow imm w m sz k c0 xs) (hc : c0 < sz) (he : c0 = c1 ∨ k = 0) : RepRow imm w m sz k c1 xs := by
  rcases he with rfl | rfl
  · exact h
  · obtain ⟨r1, r2, r3, r4, r5, r6, r7⟩ := h
    refine ⟨r1, r2, r3, ⟨r4.1, fun _ => r4.2 hc⟩, r5, r6, fun b hb => ?_⟩
    obtain ⟨vs, e, hh, hv, hr⟩ := r7 b hb
    refine ⟨vs, e, hh, hv, fun j el i d h1 h2 => ?_⟩
    obtain ⟨v, h3, h4⟩ := hr j el i d h1 h2
    rw [if_neg (by omega)] at h4
    exact ⟨v, h3, by rw [if_neg (by omega)]; exact h4⟩
theorem hwIx_get : ∀ {vs : List AV} {p o : Nat}, hwIx vs = some (p, o) → vs[p]? = some (.hw o)
  | [], p, o, h => by simp [hwIx] at h
  | v :: vs, p, o, h => by
    have key : ∀ p' o', hwIx vs = some (p', o') → vs[p']? = some (.hw o') := fun p' o' h => hwIx_get h
    cases v
    case hw o2 =>
      simp only [hwIx, Option.some.injEq, Prod.mk.injEq] at h
      obtain ⟨rfl, rfl⟩ := h; rfl
    all_goals
      simp only [hwIx] at h
      split at h
      · rename_i p' o' h'
        simp only [Option.some.injEq, Prod.mk.injEq] at h
        obtain ⟨rfl, rfl⟩ := h
        simpa using key _ _ h'
      · cases h
section
variable {P : Program} {c : Cx} {w w0 : World} {nt : Nat} {ts : Ts} {a : Act} {os : List Obj} (hf : Frm c w nt ts a) (hst : Store w0 c os w)
theorem store_run {o : Oper} {t : TypeId} {n : Nat} {x y : Operand} {b off : Nat} {cur : Array Value} {e : TypeId} (hsz : size? P t = some n) (ho : o.op = .store t x y) (hx : a.eval x = .pointer (some ⟨b, off, none⟩))
    (hy : (a.eval y).cells.size = n) (h1 : ∀ v ∈ (a.eval y).cells.toList, v.oneCell' = true) (hcur : w.heap[b]? = some (.cells cur e (0, 0))) (hl : off + n ≤ cur.size) :
    (execOp a.eval o).run P w = .ok .skip (w.setRow b (splice cur.toList off (a.eval y).cells.toList).toArray) := by
  obtain ⟨inf, hinf, hs⟩ := Option.map_eq_some_iff.1 hsz
  have := run_storeCells_at P b off e (a.eval y).cells.toList 0 cur w hcur (by simp; omega) h1
  simp only [Nat.add_zero] at this
  simp [execOp, ho, hx, Instr.storeAt, Instr.sureAddr, storeVar, sizeOf, typeInfo, hinf, hs, hy, this, splice]
include hf hst
theorem store_own {o : Oper} {t : TypeId} {n nb : Nat} {x y : Operand} (hsz : size? P t = some n) (ho : o.op = .store t x y) {q b o' k sz c1 c0 c0' z : Nat} {m mo : Meta} {xs ys : List (List D)} {el el2 : List D} {us : List Value}
    (hvx : a.eval x = .pointer (some ⟨b, k * m.sz + z, none⟩)) (hm : c.μ q = some m) (hb : m.blk = some b) (hxs : os.getD q .dead = .row sz k c0 xs) (hrow : RepRow c.imm w m sz k c1 xs) (hel : xs[k]? = some el)
    (hmo : c.μ o' = some mo) (hys : os.getD o' .dead = .row 1 0 c0' ys) (hne : ¬ o' = q) (hcell : (a.eval y).cells.toList = us) (d1 : (a.eval y).cells.size = n) (d2 : ∀ v ∈ (a.eval y).cells.toList, v.oneCell' = true)
    (hus : us.length = n) (hz : z + n ≤ el.length) (hel2 : el2.length = m.sz) (hz1 : z ≤ c1) (hz2 : c1 < z + n) (h2c : el2[c1]? = some (.sl ys)) (h2u : us[c1 - z]? = some (.slice (mo.blk.map mk0) mo.len mo.cap))
    (h2o : ∀ i d, i ≠ c1 → el2[i]? = some d → (z ≤ i ∧ i < z + n → ∃ u, us[i - z]? = some u ∧ RepD c.imm w d u) ∧ (¬ (z ≤ i ∧ i < z + n) → el[i]? = some d)) :
    Does P o a w w0 c nb .un ((os.set o' .dead).set q (.row sz (k + 1) c1 (xs.set k el2))) := by
  have hrow' := hrow
  obtain ⟨r1, r2, r3, r4, r5, r6, r7⟩ := hrow'
  obtain ⟨o1, o2, o3, o4, o5, o6, o7⟩ : RepRow c.imm w mo 1 0 c0' ys := getRow hf hst hys (by simp) hmo
  obtain ⟨vs, e, hh, hvs, hr⟩ := r7 b hb
  subst r1
  have hell : el.length = m.sz := r6 el (List.mem_of_getElem? hel)
  have hjl : k < xs.length := (List.getElem?_eq_some_iff.1 hel).1
  have hjm : k * m.sz + m.sz ≤ m.cap * m.sz := by
    have : (k + 1) * m.sz ≤ m.cap * m.sz := Nat.mul_le_mul_right _ (by omega)
    rw [Nat.add_mul] at this; omega
  have hc1 : c1 < m.sz := by omega
  have hrun := store_run (P := P) (w := w) hsz ho hvx d1 d2 hh (by omega)
  have hown : Owns c.μ os q none b := ⟨m, hm, by rw [hxs]; exact hb⟩
  rw [hcell] at hrun
  have hqo : q ≠ o' := fun h => hne h.symm
  have ho'l : ∀ b', mo.blk = some b' → Owns c.μ os o' none b' := fun b' hb' => ⟨mo, hmo, by rw [hys]; exact hb'⟩
  have hbo : ∀ b', mo.blk = some b' → b' ≠ b := by
    rintro b' hb' rfl
    exact hqo (hst.uniq _ _ _ _ _ hown (ho'l _ hb')).1
  have hql := getD_lt hxs (by simp)
  have hgq : ((os.set o' .dead).set q (.row m.sz (k + 1) c1 (xs.set k el2))).getD q .dead = .row m.sz (k + 1) c1 (xs.set k el2) := by
    rw [getD_set, if_pos ⟨rfl, by simpa using hql⟩]
  have hgo : ∀ p, p ≠ q → ((os.set o' .dead).set q (.row m.sz (k + 1) c1 (xs.set k el2))).getD p .dead = if p = o' then .dead else os.getD p .dead := by
    intro p hp
    rw [getD_set, if_neg (fun h => hp h.1.symm), getD_set]
    by_cases hpo : p = o'
    · subst hpo; rw [if_pos ⟨rfl, getD_lt hys (by simp)⟩, if_pos rfl]
    · rw [if_neg (fun h => hpo h.1.symm), if_neg hpo]
  have hgo' : ∀ p, p ≠ q → p ≠ o' → ((os.set o' .dead).set q (.row m.sz (k + 1) c1 (xs.set k el2))).getD p .dead = os.getD p .dead := fun p hp hp' => by rw [hgo p hp, if_neg hp']
  have hgoo : ((os.set o' .dead).set q (.row m.sz (k + 1) c1 (xs.set k el2))).getD o' .dead = .dead := by rw [hgo o' (Ne.symm hqo), if_pos rfl]
  generalize hos2 : ((os.set o' .dead).set q (.row m.sz (k + 1) c1 (xs.set k el2))) = os2 at hgq hgo hgo' hgoo
  have hnk : m.nest k = none := r4.2 hc1 k (Nat.le_refl _)
  let m' : Meta := { m with nest := fun p => if p = k then mo.blk else m.nest p }
  let c' : Cx := { c with μ := fun p => if p = q then some m' else c.μ p }
  have key : ∀ p l b', Owns c'.μ os2 p l b' → (p = q ∧ l = some k ∧ Owns c.μ os o' none b') ∨ (¬ (p = q ∧ l = some k) ∧ p ≠ o' ∧ Owns c.μ os p l b') := by
    rintro p l b' ⟨m1, hm1, ho1⟩
    by_cases hp : p = q
    · subst hp
      rw [hgq] at ho1
      simp only [c', if_true, Option.some.injEq] at hm1
      subst hm1
      cases l with
      | none => exact .inr ⟨by simp, hqo, m, hm, by rw [hxs]; exact ho1⟩
      | some l =>
        obtain ⟨hl1, hl2⟩ := ho1
        by_cases hlk : l = k
        · subst hlk
          simp only [m', if_true] at hl2
          exact .inl ⟨rfl, rfl, ho'l _ hl2⟩
        · simp only [m', hlk, if_false] at hl2
          exact .inr ⟨by simpa using hlk, hqo, m, hm, by rw [hxs]; exact ⟨by omega, hl2⟩⟩
    · simp only [c', hp, if_false] at hm1
      have hpo : p ≠ o' := by
        rintro rfl
        rw [hgoo] at ho1
        cases l <;> exact ho1
      rw [hgo' p hp hpo] at ho1
      exact .inr ⟨fun h => hp h.1, hpo, m1, hm1, ho1⟩
  obtain ⟨s1, s2⟩ := hst.step (c' := c') (os' := os2) (w' := w.setRow b (splice vs.toList (k * m.sz + z) us).toArray) (fun b' => b' = b) ⟨rfl, rfl⟩ (fun _ h => h) (fun _ h => .inl h)
    (fun p m1 hm1 => by
      by_cases hp : p = q
      · subst hp
        rw [hm] at hm1; cases hm1
        exact ⟨m', by simp [c'], rfl, rfl, rfl, rfl, fun j b' hj => by
          by_cases hjk : j = k
          · subst hjk; rw [hnk] at hj; cases hj
          · simpa [m', hjk] using hj⟩
      · exact ⟨m1, by simp [c', hp, hm1], m1.le_refl⟩) (by simp) ⟨rfl, rfl, rfl⟩ (fun b' _ hb' => setRow_other w b b' _ hb') (fun b' hb' => ⟨q, none, by rw [hb']; exact hown⟩)
    (fun ext p x hx hxd => by
      by_cases hp : p = q
      · subst hp
        rw [hgq] at hx
        subst hx
        left
        refine ⟨m', by simp [c'], ?_⟩
        refine RepRow.set (m' := m') hrow hb hh hel hel2 (setRow_heap w b vs _ e (0, 0) hh) (by simp only [List.size_toArray]; rw [splice_length (by simp only [Array.length_toList]; omega)]; simp) (fun i hi => ?_) ⟨rfl, rfl, rfl, rfl⟩ ⟨hjl, fun _ j hj => ?_⟩ (fun p' hp' => ⟨by omega, fun _ => by simp [m', hp']⟩) (fun i d hi => ?_) ext.ki (fun p' b' _ hp' hb' => setRow_other w b b' _ ?_)
        · rw [List.getElem?_toArray, splice_get (by simp only [Array.length_toList]; omega), if_neg (by omega)]
          simp
        · have : j ≠ k := by omega
          simp only [m', this, if_false]
          exact r4.2 hc1 j (by omega)
        · rw [List.getElem?_toArray, splice_get (by simp only [Array.length_toList]; omega)]
          by_cases hic : i = c1
          · subst hic
            rw [h2c] at hi
            cases hi
            refine ⟨.slice (mo.blk.map mk0) mo.len mo.cap, by rw [if_pos (by omega), ← h2u]; congr 1; omega, ?_⟩
            rw [if_pos ⟨by omega, rfl⟩]
            refine ⟨ys, rfl, ?_⟩
            by_cases hmb : ∃ b', mo.blk = some b'
            · obtain ⟨b', hmb⟩ := hmb
              obtain ⟨vs1, e1, hh1, hs1, hr1⟩ := o7 b' hmb
              refine .inr ⟨b', mo.cap, vs1, e1, by simp [m', hmb], by rw [hmb, o2]; rfl, (setRow_other w b b' _ (hbo b' hmb)).trans hh1, by omega, by omega, fun i2 el2 hi2 => ?_⟩
              have hl2 := o6 el2 (List.mem_of_getElem? hi2)
              obtain ⟨d2, rfl⟩ := List.length_eq_one_iff.1 hl2
              obtain ⟨v2, hv2, hd2⟩ := hr1 i2 _ 0 d2 hi2 rfl
              rw [if_neg (by omega)] at hd2
              exact ⟨d2, v2, rfl, by simpa using hv2, hd2.mono ext.ki (fun _ h => h)⟩
            · have hmb : mo.blk = none := by rcases h : mo.blk with _ | b'
                                             · rfl
                                             · exact absurd ⟨b', h⟩ hmb
              have := o5 hmb
              have hy0 : ys = [] := List.eq_nil_of_length_eq_zero (by omega)
              exact .inl ⟨by simp [m', hmb], hy0, none, mo.cap, by rw [hmb, show mo.len = 0 by omega]; rfl⟩
          · obtain ⟨g1, g2⟩ := h2o i d hic hi
            by_cases hin : z ≤ i ∧ i < z + n
            · obtain ⟨u, hu, hud⟩ := g1 hin
              refine ⟨u, by rw [if_pos (by omega), ← hu]; congr 1; omega, ?_⟩
              rw [if_neg (fun h => hic h.2)]
              exact hud.mono ext.ki (fun _ h => h)
            · obtain ⟨u, hu, hur⟩ := hr k el i d hel (g2 hin)
              rw [if_neg (fun h => hic h.2)] at hur
              refine ⟨u, by rw [if_neg (by omega)]; simpa using hu, ?_⟩
              rw [if_neg (fun h => hic h.2)]
              exact hur.mono ext.ki (fun _ h => h)
        · rintro rfl
          have := (hst.uniq _ _ _ _ _ hown (⟨m, hm, by rw [hxs]; exact ⟨hp', hb'⟩⟩ : Owns c.μ os p (some p') b')).2
          cases this
      · have hpo : p ≠ o' := by
          rintro rfl
          rw [hgoo] at hx
          exact hxd hx.symm
        rw [hgo' p hp hpo] at hx
        exact .inr ⟨hx, by simp [c', hp], fun l' b' hq hb' => hp (by subst hb'; exact (hst.uniq _ _ _ _ _ hq hown).1)⟩)
    (fun p l p' l' b' h1 h2 => by
      rcases key _ _ _ h1 with ⟨rfl, rfl, h3⟩ | ⟨n1, n1', h3⟩ <;> rcases key _ _ _ h2 with ⟨rfl, rfl, h4⟩ | ⟨n2, n2', h4⟩
      · exact ⟨rfl, rfl⟩
      · exact absurd (hst.uniq _ _ _ _ _ h3 h4).1.symm n2'
      · exact absurd (hst.uniq _ _ _ _ _ h3 h4).1 n1'
      · exact hst.uniq _ _ _ _ _ h3 h4)
    (fun p l b' h1 => by
      rcases key _ _ _ h1 with ⟨rfl, rfl, h3⟩ | ⟨n1, n1', h3⟩
      · simpa using hst.lt _ _ _ h3
      · simpa using hst.lt _ _ _ h3) (fun b' hb' => by simpa using hst.immlt b' hb') hst.fixlt'
  exact ⟨_, _, c', undef, hrun, .inr ⟨rfl, rfl⟩, s1, s2, .un, fun p hp => by
    by_cases hpq : p = q
    · left; rw [hpq, hm]; simp
    · left; simpa [c', hpq] using hp⟩
theorem d_storeWide {o : Oper} {t : TypeId} {n nb : Nat} {x y : Operand} (hsz : size? P t = some n) (ho : o.op = .store t x y) {q b o' j k sz c0 z p : Nat} {m : Meta} {xs : List (List D)} {el : List D} {ay : AV} {os' : List Obj}
    (hvx : a.eval x = .pointer (some ⟨b, j * m.sz + z, none⟩)) (hm : c.μ q = some m) (hb : m.blk = some b) (hxs : os.getD q .dead = .row sz k c0 xs) (hel : xs[j]? = some el) (hz : z + n ≤ el.length)
    (h2 : RepAV c w ay (a.eval y)) (hlen : ay.cells.length = n) (own : Bool) (hw : wideIx own n j k c0 sz ay = some (p, o')) (hv : storeWide q j k c0 z sz p o' el xs ay os = some os') : Does P o a w w0 c nb .un os' := by
  unfold wideIx at hw
  split at hw
  · cases hw
  rename_i hc
  simp only [Bool.and_eq_true, Nat.blt_eq] at hc
  split at hw
  · cases hw
  rename_i po hix
  split at hw
  rotate_left
  · cases hw
  rename_i hjk
  cases hw
  have hjk := Nat.eq_of_beq_eq_true hjk
  subst hjk
  unfold storeWide at hv
  split at hv
  · cases hv
  rename_i hne
  split at hv
  · cases hv
  rename_i hck
  split at hv
  rotate_left
  · cases hv
  rename_i c0' ys hys
  split at hv
  rotate_left
  · cases hv
  rename_i ds hds
  cases hv
  have hne : ¬ o' = q := fun e => by rw [e, Nat.beq_refl] at hne; cases hne
  have hck : c0 = z + p ∨ j = 0 := by
    rw [Bool.or_eq_true] at hck
    exact hck.imp Nat.eq_of_beq_eq_true Nat.eq_of_beq_eq_true
  have hgp := hwIx_get hix
  have hpl : p < ay.cells.length := (List.getElem?_eq_some_iff.1 hgp).1
  obtain ⟨hdl, hdg⟩ := toDs_get hds
  rw [List.length_set] at hdl
  have hone : ay.cells.all AV.one = true := by
    rw [List.all_eq_true]
    intro v hv
    obtain ⟨i, hi⟩ := List.getElem?_of_mem hv
    by_cases hip : i = p
    · subst hip; rw [hgp] at hi; cases hi; rfl
    · have hil : i < ds.length := by rw [hdl]; exact (List.getElem?_eq_some_iff.1 hi).1
      obtain ⟨v', h1, h3⟩ := hdg i _ (List.getElem?_eq_getElem hil)
      rw [List.getElem?_set_ne (fun e => hip e.symm), hi] at h1
      cases h1
      exact toD_one h3
  have c3 := cells_rep h2 (cells_ok hone)
  have hul := c3.length
  have d1 : (a.eval y).cells.size = n := by simp at hul; omega
  have d2 : ∀ v ∈ (a.eval y).cells.toList, v.oneCell' = true := fun v hv => by
    obtain ⟨i, hi⟩ := List.getElem?_of_mem hv
    have hlt : i < ay.cells.length := by rw [hul]; exact (List.getElem?_eq_some_iff.1 hi).1
    obtain ⟨u, hu, hru⟩ := c3.get i _ (List.getElem?_eq_getElem hlt)
    rw [hi] at hu; cases hu
    exact one_rep hru (by simp only [List.all_eq_true] at hone; exact hone _ (List.getElem_mem hlt))
  obtain ⟨u0, hu0, hr0⟩ := c3.get p _ hgp
  obtain ⟨mo, hmo, hu0e⟩ : ∃ mo, c.μ o' = some mo ∧ u0 = .slice (mo.blk.map mk0) mo.len mo.cap := by
    cases hr0 with
    | hw _ m hm => exact ⟨m, hm, rfl⟩
  have hrow0 : RepRow c.imm w m sz j c0 xs := getRow hf hst hxs (by simp) hm
  have hell : el.length = sz := hrow0.2.2.2.2.2.1 el (List.mem_of_getElem? hel)
  have hms := hrow0.1
  have hrow := hrow0.c0 (c1 := z + p) hc.2 hck
  refine store_own hf hst hsz ho hvx hm hb hxs hrow hel hmo hys hne rfl d1 d2 (by simpa using d1) hz (by rw [splice_length (by rw [List.length_set]; omega)]; omega) (by omega) (by omega) ?_ (by rw [← hu0e, ← hu0]; congr 1; omega) fun i d hi hd => ?_
  · rw [splice_get (by rw [List.length_set]; omega), if_pos (by rw [List.length_set]; omega), show z + p - z = p by omega, List.getElem?_set_self (by omega)]
  · rw [splice_get (by rw [List.length_set]; omega), List.length_set] at hd
    refine ⟨fun hin => ?_, fun hin => ?_⟩
    · rw [if_pos (by omega), List.getElem?_set_ne (by omega)] at hd
      obtain ⟨v, hv1, hv2⟩ := hdg _ _ hd
      rw [List.getElem?_set_ne (by omega)] at hv1
      obtain ⟨u, hu, hur⟩ := c3.get _ _ hv1
      exact ⟨u, hu, toD_rep hur hv2⟩
    · rw [if_neg (by omega)] at hd
      exact hd
theorem d_store {o : Oper} {t : TypeId} {n nb : Nat} {x y : Operand} {X' Y' : X} {own : Bool} {os' : List Obj} (hsz : size? P t = some n) (ho : o.op = .store t x y) (hx : cX x = some X') (hy : cX y = some Y')
    (hv : storeAV own n (getX ts X') (getX ts Y') os = some os') : Does P o a w w0 c nb .un os' := by
  have h1 := rep_X hf hx
  have h2 := rep_X hf hy
  generalize getX ts X' = ax at h1 hv
  generalize getX ts Y' = ay at h2 hv
  generalize hvx : a.eval x = vx at h1
  unfold storeAV at hv
  split at hv
  · simp at hv
  rename_i hlen
  simp only [ne_eq, Decidable.not_not] at hlen
  have cellsOk : ay.cells.all AV.one = true → (a.eval y).cells.size = n ∧ (∀ v ∈ (a.eval y).cells.toList, v.oneCell' = true) ∧ RepAVs c w ay.cells (a.eval y).cells.toList := by
    intro hall
    have hr := cells_rep h2 (cells_ok hall)
    have hl := hr.length
    refine ⟨by simp at hl; omega, fun v hv => ?_, hr⟩
    obtain ⟨i, hi⟩ := List.getElem?_of_mem hv
    have hlt : i < ay.cells.length := by rw [hl]; exact (List.getElem?_eq_some_iff.1 hi).1
    obtain ⟨u, hu, hru⟩ := hr.get i _ (List.getElem?_eq_getElem hlt)
    rw [hi] at hu; cases hu
    exact one_rep hru (by simp only [List.all_eq_true] at hall; exact hall _ (List.getElem_mem hlt))
  cases ax <;> simp only [reduceCtorEq] at hv
  case ptr q off =>
    cases h1 with
    | ptr _ _ b m hm hb =>
    split at hv
    · rename_i cs hcs
      split at hv
      · rename_i hc
        obtain ⟨hoff, hall⟩ := hc
        simp at hv; subst hv
        obtain ⟨c1, c2, c3⟩ := cellsOk hall
        obtain ⟨b', vs, e, hb', hh, hrs⟩ := getRow hf hst hcs (by simp) hm
        rw [hb] at hb'; cases hb'
        have hvl := hrs.length
        have hrun := store_run (P := P) (w := w) hsz ho hvx c1 c2 hh (by simp; omega)
        have hown : Owns c.μ os q none b := ⟨m, hm, by rw [hcs]; exact hb⟩
        obtain ⟨s1, s2⟩ := hst.upd hown (splice vs.toArray.toList off (a.eval y).cells.toList).toArray (x := .box (splice cs off ay.cells)) (own_box hcs) (fun ext => ⟨m, hm, b, splice vs off (a.eval y).cells.toList, e, hb, by
          have := setRow_heap w b vs.toArray (splice vs.toArray.toList off (a.eval y).cells.toList).toArray e (0, 0) hh
          simpa using this, (hrs.splice off c3).mono ext⟩)
        exact ⟨_, _, c, undef, hrun, .inr ⟨rfl, rfl⟩, s1, s2, .un, fun _ hq => .inl hq⟩
      · simp at hv
    · simp at hv
  case rp q j z =>
    cases h1 with
    | rp _ _ _ b m hm hb =>
    split at hv
    · rename_i sz k c0 xs hxs
      split at hv
      · rename_i el hel
        split at hv
        · rename_i hfit
          split at hv
          · simp at hv
          · rename_i hnk
            split at hv
            · rename_i hownc
              obtain ⟨_, hjk, hzc, hn1, _hw⟩ := hownc; clear _hw; subst hn1
              have hjk := hjk.symm
              have hzc := hzc.symm
              subst hjk
              subst hzc
              split at hv
              · rename_i o'
                split at hv
                · simp at hv
                · rename_i hne
                  split at hv
                  · rename_i c0' ys hys
                    simp at hv; subst hv
                    obtain ⟨mo, hmo, hval⟩ : ∃ mo, c.μ o' = some mo ∧ a.eval y = .slice (mo.blk.map mk0) mo.len mo.cap := by
                      generalize a.eval y = vy at h2
                      cases h2 with
                      | hw _ m hm => exact ⟨m, hm, rfl⟩
                    obtain ⟨c1, c2, c3⟩ := cellsOk rfl
                    have hrow : RepRow c.imm w m sz k c0 xs := getRow hf hst hxs (by simp) hm
                    have hrow' := hrow
                    obtain ⟨r1, r2, r3, r4, r5, r6, r7⟩ := hrow'
                    obtain ⟨o1, o2, o3, o4, o5, o6, o7⟩ : RepRow c.imm w mo 1 0 c0' ys := getRow hf hst hys (by simp) hmo
                    obtain ⟨vs, e, hh, hvs, hr⟩ := r7 b hb
                    subst r1
                    have hell : el.length = m.sz := r6 el (List.mem_of_getElem? hel)
                    have hjl : k < xs.length := (List.getElem?_eq_some_iff.1 hel).1
                    have hjm : k * m.sz + m.sz ≤ m.cap * m.sz := by
                      have : (k + 1) * m.sz ≤ m.cap * m.sz := Nat.mul_le_mul_right _ (by omega)
                      rw [Nat.add_mul] at this; omega
                    have hrun := store_run (P := P) (w := w) hsz ho hvx c1 c2 hh (by omega)
                    have hown : Owns c.μ os q none b := ⟨m, hm, by rw [hxs]; exact hb⟩
                    have hcell : (a.eval y).cells.toList = [.slice (mo.blk.map mk0) mo.len mo.cap] := by rw [hval]; rfl
                    rw [hcell] at hrun
                    have hqo : q ≠ o' := fun h => hne h.symm
                    have ho'l : ∀ b', mo.blk = some b' → Owns c.μ os o' none b' := fun b' hb' => ⟨mo, hmo, by rw [hys]; exact hb'⟩
                    have hbo : ∀ b', mo.blk = some b' → b' ≠ b := by
                      rintro b' hb' rfl
                      exact hqo (hst.uniq _ _ _ _ _ hown (ho'l _ hb')).1
                    have hql := getD_lt hxs (by simp)
                    have hgq : ((os.set o' .dead).set q (.row m.sz (k + 1) c0 (xs.set k (el.set c0 (.sl ys))))).getD q .dead = .row m.sz (k + 1) c0 (xs.set k (el.set c0 (.sl ys))) := by
                      rw [getD_set, if_pos ⟨rfl, by simpa using hql⟩]
                    have hgo : ∀ p, p ≠ q → ((os.set o' .dead).set q (.row m.sz (k + 1) c0 (xs.set k (el.set c0 (.sl ys))))).getD p .dead = if p = o' then .dead else os.getD p .dead := by
                      intro p hp
                      rw [getD_set, if_neg (fun h => hp h.1.symm), getD_set]
                      by_cases hpo : p = o'
                      · subst hpo; rw [if_pos ⟨rfl, getD_lt hys (by simp)⟩, if_pos rfl]
                      · rw [if_neg (fun h => hpo h.1.symm), if_neg hpo]
                    have hgo' : ∀ p, p ≠ q → p ≠ o' → ((os.set o' .dead).set q (.row m.sz (k + 1) c0 (xs.set k (el.set c0 (.sl ys))))).getD p .dead = os.getD p .dead := fun p hp hp' => by rw [hgo p hp, if_neg hp']
                    have hgoo : ((os.set o' .dead).set q (.row m.sz (k + 1) c0 (xs.set k (el.set c0 (.sl ys))))).getD o' .dead = .dead := by rw [hgo o' (Ne.symm hqo), if_pos rfl]
                    generalize hos2 : ((os.set o' .dead).set q (.row m.sz (k + 1) c0 (xs.set k (el.set c0 (.sl ys))))) = os2 at hgq hgo hgo' hgoo
                    have hc0 : c0 < m.sz := by omega
                    have hnk : m.nest k = none := r4.2 hc0 k (Nat.le_refl _)
                    let m' : Meta := { m with nest := fun p => if p = k then mo.blk else m.nest p }
                    let c' : Cx := { c with μ := fun p => if p = q then some m' else c.μ p }
                    have key : ∀ p l b', Owns c'.μ os2 p l b' → (p = q ∧ l = some k ∧ Owns c.μ os o' none b') ∨ (¬ (p = q ∧ l = some k) ∧ p ≠ o' ∧ Owns c.μ os p l b') := by
                      rintro p l b' ⟨m1, hm1, ho1⟩
                      by_cases hp : p = q
                      · subst hp
                        rw [hgq] at ho1
                        simp only [c', if_true, Option.some.injEq] at hm1
                        subst hm1
                        cases l with
                        | none => exact .inr ⟨by simp, hqo, m, hm, by rw [hxs]; exact ho1⟩
                        | some l =>
                          obtain ⟨hl1, hl2⟩ := ho1
                          by_cases hlk : l = k
                          · subst hlk
                            simp only [m', if_true] at hl2
                            exact .inl ⟨rfl, rfl, ho'l _ hl2⟩
                          · simp only [m', hlk, if_false] at hl2
                            exact .inr ⟨by simpa using hlk, hqo, m, hm, by rw [hxs]; exact ⟨by omega, hl2⟩⟩
                      · simp only [c', hp, if_false] at hm1
                        have hpo : p ≠ o' := by
                          rintro rfl
                          rw [hgoo] at ho1
                          cases l <;> exact ho1
                        rw [hgo' p hp hpo] at ho1
                        exact .inr ⟨fun h => hp h.1, hpo, m1, hm1, ho1⟩
                    obtain ⟨s1, s2⟩ := hst.step (c' := c') (os' := os2) (w' := w.setRow b (splice vs.toList (k * m.sz + c0) [.slice (mo.blk.map mk0) mo.len mo.cap]).toArray) (fun b' => b' = b) ⟨rfl, rfl⟩ (fun _ h => h) (fun _ h => .inl h)
                      (fun p m1 hm1 => by
                        by_cases hp : p = q
                        · subst hp
                          rw [hm] at hm1; cases hm1
                          exact ⟨m', by simp [c'], rfl, rfl, rfl, rfl, fun j b' hj => by
                            by_cases hjk : j = k
                            · subst hjk; rw [hnk] at hj; cases hj
                            · simpa [m', hjk] using hj⟩
                        · exact ⟨m1, by simp [c', hp, hm1], m1.le_refl⟩) (by simp) ⟨rfl, rfl, rfl⟩ (fun b' _ hb' => setRow_other w b b' _ hb') (fun b' hb' => ⟨q, none, by rw [hb']; exact hown⟩)
                      (fun ext p x hx hxd => by
                        by_cases hp : p = q
                        · subst hp
                          rw [hgq] at hx
                          subst hx
                          left
                          refine ⟨m', by simp [c'], ?_⟩
                          refine RepRow.set (m' := m') hrow hb hh hel (by simpa using hell) (setRow_heap w b vs _ e (0, 0) hh) (by simp only [List.size_toArray]; rw [splice_length (by simp; omega)]; simp) (fun i hi => ?_) ⟨rfl, rfl, rfl, rfl⟩ ⟨hjl, fun _ j hj => ?_⟩ (fun p' hp' => ⟨by omega, fun _ => by simp [m', hp']⟩) (fun i d hi => ?_) ext.ki (fun p' b' _ hp' hb' => setRow_other w b b' _ ?_)
                          · rw [List.getElem?_toArray, splice_get (by simp; omega), if_neg (by simp; omega)]
                            simp
                          · have : j ≠ k := by omega
                            simp only [m', this, if_false]
                            exact r4.2 hc0 j (by omega)
                          · rw [List.getElem?_toArray, splice_get (by simp; omega)]
                            by_cases hic : i = c0
                            · subst hic
                              rw [List.getElem?_set_self (by omega)] at hi
                              cases hi
                              refine ⟨.slice (mo.blk.map mk0) mo.len mo.cap, by simp, ?_⟩
                              rw [if_pos ⟨by omega, rfl⟩]
                              refine ⟨ys, rfl, ?_⟩
                              by_cases hmb : ∃ b', mo.blk = some b'
                              · obtain ⟨b', hmb⟩ := hmb
                                obtain ⟨vs1, e1, hh1, hs1, hr1⟩ := o7 b' hmb
                                refine .inr ⟨b', mo.cap, vs1, e1, by simp [m', hmb], by rw [hmb, o2]; rfl, (setRow_other w b b' _ (hbo b' hmb)).trans hh1, by omega, by omega, fun i2 el2 hi2 => ?_⟩
                                have hl2 := o6 el2 (List.mem_of_getElem? hi2)
                                obtain ⟨d2, rfl⟩ := List.length_eq_one_iff.1 hl2
                                obtain ⟨v2, hv2, hd2⟩ := hr1 i2 _ 0 d2 hi2 rfl
                                rw [if_neg (by omega)] at hd2
                                exact ⟨d2, v2, rfl, by simpa using hv2, hd2.mono ext.ki (fun _ h => h)⟩
                              · have hmb : mo.blk = none := by rcases h : mo.blk with _ | b'
                                                               · rfl
                                                               · exact absurd ⟨b', h⟩ hmb
                                have := o5 hmb
                                have hy0 : ys = [] := List.eq_nil_of_length_eq_zero (by omega)
                                exact .inl ⟨by simp [m', hmb], hy0, none, mo.cap, by rw [hmb, show mo.len = 0 by omega]; rfl⟩
                            · rw [List.getElem?_set_ne (fun h => hic h.symm)] at hi
                              obtain ⟨u, hu, hur⟩ := hr k el i d hel hi
                              rw [if_neg (fun h => hic h.2)] at hur
                              refine ⟨u, by rw [if_neg (by simp; omega)]; simpa using hu, ?_⟩
                              rw [if_neg (fun h => hic h.2)]
                              exact hur.mono ext.ki (fun _ h => h)
                          · rintro rfl
                            have := (hst.uniq _ _ _ _ _ hown (⟨m, hm, by rw [hxs]; exact ⟨hp', hb'⟩⟩ : Owns c.μ os p (some p') b')).2
                            cases this
                        · have hpo : p ≠ o' := by
                            rintro rfl
                            rw [hgoo] at hx
                            exact hxd hx.symm
                          rw [hgo' p hp hpo] at hx
                          exact .inr ⟨hx, by simp [c', hp], fun l' b' hq hb' => hp (by subst hb'; exact (hst.uniq _ _ _ _ _ hq hown).1)⟩)
                      (fun p l p' l' b' h1 h2 => by
                        rcases key _ _ _ h1 with ⟨rfl, rfl, h3⟩ | ⟨n1, n1', h3⟩ <;> rcases key _ _ _ h2 with ⟨rfl, rfl, h4⟩ | ⟨n2, n2', h4⟩
                        · exact ⟨rfl, rfl⟩
                        · exact absurd (hst.uniq _ _ _ _ _ h3 h4).1.symm n2'
                        · exact absurd (hst.uniq _ _ _ _ _ h3 h4).1 n1'
                        · exact hst.uniq _ _ _ _ _ h3 h4)
                      (fun p l b' h1 => by
                        rcases key _ _ _ h1 with ⟨rfl, rfl, h3⟩ | ⟨n1, n1', h3⟩
                        · simpa using hst.lt _ _ _ h3
                        · simpa using hst.lt _ _ _ h3) (fun b' hb' => by simpa using hst.immlt b' hb') hst.fixlt'
                    exact ⟨_, _, c', undef, hrun, .inr ⟨rfl, rfl⟩, s1, s2, .un, fun p hp => by
                      by_cases hpq : p = q
                      · left; rw [hpq, hm]; simp
                      · left; simpa [c', hpq] using hp⟩
                  · simp at hv
              · simp at hv
            · rename_i hnown
              split at hv
              · rename_i p o' hwi
                exact d_storeWide hf hst hsz ho hvx hm hb hxs hel hfit h2 hlen own hwi hv
              split at hv
              · simp at hv
              · rename_i ds os1 hds
                split at hv
                · rename_i sz1 k1 c01 xs1 hxs1
                  simp at hv; subst hv
                  obtain ⟨c1, c2, c3⟩ := cellsOk (freezeL_one hds)
                  obtain ⟨cc, fz, hdl, hdr⟩ := freezeL_rep hst c3 hds
                  have := fz.row _ _ _ _ _ hxs1
                  rw [hxs] at this; cases this
                  have hm1 : cc.μ q = some m := by rw [fz.mu]; exact hm
                  obtain ⟨m', hm', hrow⟩ := fz.st.obj q _ hxs1 (by simp)
                  rw [hm1] at hm'; cases hm'
                  have hrow' : RepRow cc.imm w m sz k c0 xs := hrow
                  obtain ⟨r1, r2, r3, r4, r5, r6, r7⟩ := hrow
                  obtain ⟨vs, e, hh, hvs, hr⟩ := r7 b hb
                  subst r1
                  have hell : el.length = m.sz := r6 el (List.mem_of_getElem? hel)
                  have hjl : j < xs.length := (List.getElem?_eq_some_iff.1 hel).1
                  have hjm : j * m.sz + m.sz ≤ m.cap * m.sz := by
                    have : (j + 1) * m.sz ≤ m.cap * m.sz := Nat.mul_le_mul_right _ (by omega)
                    rw [Nat.add_mul] at this; omega
                  have hrun := store_run (P := P) (w := w) hsz ho hvx c1 c2 hh (by omega)
                  have hown : Owns cc.μ os1 q none b := ⟨m, hm1, by rw [hxs1]; exact hb⟩
                  have hul : (a.eval y).cells.toList.length = n := by simpa using c1
                  have hdn : ds.length = n := by omega
                  obtain ⟨s1, s2⟩ := fz.st.upd hown (splice vs.toList (j * m.sz + z) (a.eval y).cells.toList).toArray (x := .row m.sz k c0 (xs.set j (splice el z ds))) (own_row hxs1) (fun ext => ⟨m, hm1, by
                    refine RepRow.set hrow' hb hh hel (by rw [splice_length (by omega)]; exact hell) (setRow_heap w b vs _ e (0, 0) hh) (by simp only [List.size_toArray]; rw [splice_length (by simp only [Array.length_toList]; omega)]; simp) (fun i hi => ?_) ⟨rfl, rfl, rfl, rfl⟩ r4 (fun _ _ => ⟨Iff.rfl, fun _ => rfl⟩) (fun i d hi => ?_) ext.ki (fun q' b' _ hq' hb' => setRow_other w b b' _ ?_)
                    · rw [List.getElem?_toArray, splice_get (by simp only [Array.length_toList]; omega), if_neg (by omega)]
                      simp
                    · rw [splice_get (by omega)] at hi
                      rw [List.getElem?_toArray, splice_get (by simp only [Array.length_toList]; omega)]
                      by_cases hin : z ≤ i ∧ i < z + n
                      · rw [if_pos (by omega)] at hi
                        obtain ⟨u, hu, hud⟩ := hdr _ _ hi
                        refine ⟨u, by rw [if_pos (by omega), ← hu]; congr 1; omega, ?_⟩
                        rw [if_neg (by rintro ⟨h8, rfl⟩; exact hnk ⟨h8, by omega⟩)]
                        exact hud.mono ext.ki ext.imm
                      · rw [if_neg (by omega)] at hi
                        obtain ⟨u, hu, hur⟩ := hr j el i d hel hi
                        refine ⟨u, by rw [if_neg (by omega)]; simpa using hu, ?_⟩
                        split at hur
                        · rename_i hc
                          rw [if_pos hc]
                          refine hur.mono ext.ki ext.imm (fun b' hb' => setRow_other w b b' _ ?_)
                          rintro rfl
                          have := (fz.st.uniq _ _ _ _ _ hown (⟨m, hm1, by rw [hxs1]; exact ⟨hc.1, hb'⟩⟩ : Owns cc.μ os1 q (some j) b')).2
                          cases this
                        · rename_i hc
                          rw [if_neg hc]
                          exact hur.mono ext.ki ext.imm
                    · rintro rfl
                      have := (fz.st.uniq _ _ _ _ _ hown (⟨m, hm1, by rw [hxs1]; exact ⟨hq', hb'⟩⟩ : Owns cc.μ os1 q (some q') b')).2
                      cases this⟩)
                  exact ⟨_, _, cc, undef, hrun, .inr ⟨rfl, rfl⟩, s1, fz.ext.trans s2, .un, fun p hp => .inl (by rw [fz.mu] at hp; exact hp)⟩
                · simp at hv
        · simp at hv
      · simp at hv
    · simp at hv
  case subp q j i =>
    cases h1 with
    | subp _ _ _ b m hm hb =>
    split at hv
    · rename_i sz k c0 xs hxs
      split at hv
      · rename_i el hel
        split at hv
        · rename_i ys hys
          split at hv
          · rename_i d hd
            split at hv
            · rename_i hc
              obtain ⟨hi, hjk⟩ := hc
              simp at hv; subst hv
              have hone := toD_one hd
              have hay : ay.cells = [ay] := by cases ay <;> first | rfl | (simp [AV.toD] at hd; done)
              obtain ⟨c1, c2, c3⟩ := cellsOk (by rw [hay]; simp [hone])
              rw [hay] at hlen c3
              simp at hlen
              subst hlen
              obtain ⟨yv, hyv⟩ : ∃ yv, (a.eval y).cells.toList = [yv] := List.length_eq_one_iff.1 (by simpa using c1)
              rw [hyv] at c3 c2
              have hrow : RepRow c.imm w m sz k c0 xs := getRow hf hst hxs (by simp) hm
              have hrow' := hrow
              obtain ⟨r1, r2, r3, r4, r5, r6, r7⟩ := hrow'
              have hjl : j < xs.length := (List.getElem?_eq_some_iff.1 hel).1
              have hell : el.length = sz := r6 el (List.mem_of_getElem? hel)
              have hc0 : c0 < el.length := (List.getElem?_eq_some_iff.1 hys).1
              cases hbk : m.blk with
              | none => have := r5 hbk; omega
              | some b0 =>
              obtain ⟨vs, e, hh, hvs, hr⟩ := r7 b0 hbk
              obtain ⟨v0, hv0, hrep0⟩ := hr j el c0 _ hel hys
              rw [if_pos ⟨hjk, rfl⟩] at hrep0
              obtain ⟨ys', hys', hrep0⟩ := hrep0
              cases hys'
              rcases hrep0 with ⟨_, h0, _⟩ | ⟨b1, cap1, vs1, e1, hn1, hv1, hh1, hcap1, hl1, hr1⟩
              · subst h0; simp at hi
              · rw [hb] at hn1; cases hn1
                have hrun := store_run (P := P) (w := w) hsz ho hvx c1 (by rw [hyv]; exact c2) hh1 (by omega)
                rw [hyv] at hrun
                have hown : Owns c.μ os q (some j) b := ⟨m, hm, by rw [hxs]; exact ⟨hjk, hb⟩⟩
                have hown0 : Owns c.μ os q none b0 := ⟨m, hm, by rw [hxs]; exact hbk⟩
                have hbb : b0 ≠ b := by
                  rintro rfl
                  have := (hst.uniq _ _ _ _ _ hown hown0).2
                  cases this
                obtain ⟨s1, s2⟩ := hst.upd hown (splice vs1.toList i [yv]).toArray (x := .row sz k c0 (xs.set j (el.set c0 (.sl (ys.set i [d.scrub]))))) (own_row hxs) (fun ext => ⟨m, hm, by
                  have nest : ∀ p b', p ≠ j → p < k → m.nest p = some b' → (w.setRow b (splice vs1.toList i [yv]).toArray).heap[b']? = w.heap[b']? := by
                    intro p b' hp hpk hnb
                    refine setRow_other w b b' _ ?_
                    rintro rfl
                    have := (hst.uniq _ _ _ _ _ hown (⟨m, hm, by rw [hxs]; exact ⟨hpk, hnb⟩⟩ : Owns c.μ os q (some p) b')).2
                    cases this; exact hp rfl
                  refine RepRow.set hrow hbk hh hel (by simpa using hell) ((setRow_other w b b0 _ hbb).trans hh) rfl (fun _ _ => rfl) ⟨rfl, rfl, rfl, rfl⟩ r4 (fun _ _ => ⟨Iff.rfl, fun _ => rfl⟩) (fun i' d' hi' => ?_) ext.ki nest
                  rw [List.getElem?_set] at hi'
                  split at hi'
                  · rename_i hci
                    subst hci
                    try rw [if_pos hc0] at hi'
                    cases hi'
                    refine ⟨v0, hv0, ?_⟩
                    rw [if_pos ⟨hjk, rfl⟩]
                    refine ⟨_, rfl, .inr ⟨b, cap1, _, e1, hb, by simpa using hv1, setRow_heap w b vs1 _ e1 (0, 0) hh1, by simpa using hcap1, by simp only [List.length_set, List.size_toArray]; rw [splice_length (by simp; omega)]; simpa using hl1, fun i2 el2 hi2 => ?_⟩⟩
                    rw [List.getElem?_toArray, splice_get (by simp; omega)]
                    rw [List.getElem?_set] at hi2
                    split at hi2
                    · rename_i hii
                      subst hii
                      try rw [if_pos hi] at hi2
                      cases hi2
                      refine ⟨d.scrub, yv, rfl, by simp, ?_⟩
                      cases c3 with
                      | cons _ _ _ _ c3 _ => exact scrub_rep (toD_rep (c3.mono ext) hd)
                    · rename_i hii
                      obtain ⟨d2, u2, e2, hu2, hd2⟩ := hr1 i2 el2 hi2
                      exact ⟨d2, u2, e2, by rw [if_neg (by simp; omega)]; simpa using hu2, hd2.mono ext.ki (fun _ h => h)⟩
                  · rename_i hci
                    obtain ⟨u, hu, hur⟩ := hr j el i' d' hel hi'
                    rw [if_neg (fun h => hci h.2.symm)] at hur
                    exact ⟨u, hu, by rw [if_neg (fun h => hci h.2.symm)]; exact hur.mono ext.ki (fun _ h => h)⟩⟩)
                exact ⟨_, _, c, undef, hrun, .inr ⟨rfl, rfl⟩, s1, s2, .un, fun _ hq => .inl hq⟩
            · simp at hv
          · simp at hv
        · simp at hv
      · simp at hv
    · simp at hv
end
end Go.Gn

namespace Go.Gn
open Go
set_option linter.unusedVariables false
set_option linter.unusedSimpArgs false
set_option linter.unusedSectionVars false
theorem Store.morph {w0 : World} {c : Cx} {os : List Obj} {w : World} (h : Store w0 c os w) {nb : Nat} (hnb : c.μ nb = none) (os1 : List Obj) (hos1 : ∀ q, os1.getD q .dead = os.getD q .dead ∨ os1.getD q .dead = .dead) (x : Obj) (m : Meta) (w' : World) (chg : Nat → Prop)
    (hg : w.heap.size ≤ w'.heap.size) (hsame : w'.os = w.os ∧ w'.tape = w.tape ∧ w'.output = w.output) (hk : ∀ b, b < w.heap.size → ¬ chg b → w'.heap[b]? = w.heap[b]?) (hc : ∀ b, chg b → ∃ q l, Owns c.μ os q l b ∧ os1.getD q .dead = .dead)
    (hown : ∀ l b, Owns (c.with nb m).μ (setAt os1 nb x) nb l b → (b = w.heap.size ∧ w.heap.size < w'.heap.size) ∨ ∃ q lq, Owns c.μ os q lq b ∧ os1.getD q .dead = .dead)
    (huniq : ∀ l l' b, Owns (c.with nb m).μ (setAt os1 nb x) nb l b → Owns (c.with nb m).μ (setAt os1 nb x) nb l' b → l = l')
    (hr : Ext c w (c.with nb m) w' → RepObj (c.with nb m) w' m x) :
    Store w0 (c.with nb m) (setAt os1 nb x) w' ∧ Ext c w (c.with nb m) w' := by
  have other : ∀ o l b, o ≠ nb → Owns (c.with nb m).μ (setAt os1 nb x) o l b → Owns c.μ os o l b ∧ os1.getD o .dead = os.getD o .dead ∧ os1.getD o .dead ≠ .dead := by
    rintro o l b hne ⟨m', hm', ho⟩
    simp only [Cx.with, hne, if_false] at hm'
    rw [getD_setAt, if_neg (Ne.symm hne)] at ho
    rcases hos1 o with h1 | h1
    · refine ⟨⟨m', hm', by rw [← h1]; exact ho⟩, h1, fun hd => ?_⟩
      rw [hd] at ho; cases l <;> exact ho
    · rw [h1] at ho; exfalso; cases l <;> exact ho
  refine h.step chg ⟨rfl, rfl⟩ (fun _ hb => hb) (fun _ hb => .inl hb) (fun o m' ho => ?_) hg hsame hk (fun b hb => let ⟨q, l, hq, _⟩ := hc b hb; ⟨q, l, hq⟩) (fun ext o y hy hne => ?_) ?_ ?_ (fun b hb => Nat.lt_of_lt_of_le (h.immlt b hb) hg) h.fixlt'
  · simp only [Cx.with]
    by_cases he : o = nb
    · subst he; rw [hnb] at ho; cases ho
    · exact ⟨m', by simp [he, ho], m'.le_refl⟩
  · by_cases he : o = nb
    · subst he
      left
      rw [getD_setAt, if_pos rfl] at hy
      subst hy
      exact ⟨m, by simp [Cx.with], hr ext⟩
    · right
      rw [getD_setAt, if_neg (Ne.symm he)] at hy
      rcases hos1 o with h1 | h1
      · refine ⟨h1.symm.trans hy, by simp [Cx.with, he], fun l b ho hcb => ?_⟩
        obtain ⟨q, lq, hq, hd⟩ := hc b hcb
        have := (h.uniq _ _ _ _ _ ho hq).1
        subst this
        exact hne (hy.symm.trans hd)
      · exact absurd (hy.symm.trans h1) hne
  · intro o l o' l' b h1 h2
    by_cases he : o = nb <;> by_cases he' : o' = nb
    · subst he; subst he'; exact ⟨rfl, huniq _ _ _ h1 h2⟩
    · subst he
      obtain ⟨h3, h4, h5⟩ := other _ _ _ he' h2
      rcases hown _ _ h1 with ⟨rfl, _⟩ | ⟨q, lq, hq, hd⟩
      · exact absurd (h.lt _ _ _ h3).1 (Nat.lt_irrefl _)
      · have := (h.uniq _ _ _ _ _ h3 hq).1
        subst this; exact absurd hd h5
    · subst he'
      obtain ⟨h3, h4, h5⟩ := other _ _ _ he h1
      rcases hown _ _ h2 with ⟨rfl, _⟩ | ⟨q, lq, hq, hd⟩
      · exact absurd (h.lt _ _ _ h3).1 (Nat.lt_irrefl _)
      · have := (h.uniq _ _ _ _ _ h3 hq).1
        subst this; exact absurd hd h5
    · exact h.uniq _ _ _ _ _ (other _ _ _ he h1).1 (other _ _ _ he' h2).1
  · intro o l b h1
    by_cases he : o = nb
    · subst he
      rcases hown _ _ h1 with ⟨rfl, hlt⟩ | ⟨q, lq, hq, hd⟩
      · exact ⟨hlt, fun hi => absurd (h.immlt _ hi) (Nat.lt_irrefl _), fun hi => absurd (h.fixlt' _ hi) (Nat.lt_irrefl _), fun hi => absurd (h.othlt _ hi) (Nat.lt_irrefl _)⟩
      · obtain ⟨h3, h4, h5⟩ := h.lt _ _ _ hq
        exact ⟨Nat.lt_of_lt_of_le h3 hg, h4, h5⟩
    · obtain ⟨h3, h4, h5⟩ := h.lt _ _ _ (other _ _ _ he h1).1
      exact ⟨Nat.lt_of_lt_of_le h3 hg, h4, h5⟩
theorem run_append_none {P : Program} {w : World} (t ty e : TypeId) (i : TypeInfo) (ht : P.underlying t = some (.slice e)) (hi : P.info? e = some i) (base : Option Addr) (sLen sCap : Nat) (A : Option Addr) (c : Nat) (h : sLen ≤ sCap) :
    (Builtin.append_ #[t, t] ty #[.slice base sLen sCap, .slice A 0 c]).run P w = .ok (.slice base sLen sCap) w := by
  have hn : (Builtin.firstCells i.size 0 (.slice A 0 c)).run P w = .ok #[] w := by
    cases A <;> simp [Builtin.firstCells, loadCells, loadCellsFrom]
  cases base <;> simp [Builtin.append_, run_underlying ht, sizeOf, typeInfo, hi, Builtin.lenOf, h, hn, storeCells]
theorem app_core {P : Program} {w : World} {c : Cx} (t ty e : TypeId) (i : TypeInfo) (z : Value) (ht : P.underlying t = some (.slice e)) (hi : P.info? e = some i) (hz : i.zero = some z) (hzs : z.cells.size = i.size) (hby : i.bytes ≠ 0)
    {m : Meta} {k c0 : Nat} {xs : List (List D)} (hrow : RepRow c.imm w m i.size k c0 xs) (A : Option Addr) (n cap : Nat) (news : List Value) (hl : news.length = n * i.size)
    (hnews : 0 < n → ∃ a, A = some a ∧ ∀ j u, news[j]? = some u → w.cell? (a.add j) = some u) (h1 : ∀ u ∈ news, u.oneCell' = true) (hbytes : (xs.length + n) * i.bytes ≤ 140737488355328) :
    ∃ w' blk len' cap', (Builtin.append_ #[t, t] ty #[.slice (m.blk.map mk0) m.len m.cap, .slice A n cap]).run P w = .ok (.slice (blk.map mk0) len' cap') w' ∧ w'.os = w.os ∧ w'.tape = w.tape ∧ w'.output = w.output ∧ w.heap.size ≤ w'.heap.size ∧
      (∀ b, b < w.heap.size → m.blk ≠ some b → w'.heap[b]? = w.heap[b]?) ∧ (blk = m.blk ∨ (blk = some w.heap.size ∧ w.heap.size < w'.heap.size)) ∧
      len' = xs.length + n ∧ len' ≤ cap' ∧ (blk = none → cap' = 0) ∧
      ∀ b', blk = some b' → ∃ vs' e', w'.heap[b']? = some (.cells vs' e' (0, 0)) ∧ vs'.size = cap' * i.size ∧
        (∀ b vs e, m.blk = some b → w.heap[b]? = some (.cells vs e (0, 0)) → ∀ q, q < xs.length * i.size → vs'[q]? = vs[q]?) ∧ (∀ q u, news[q]? = some u → vs'[xs.length * i.size + q]? = some u) := by
  obtain ⟨r1, r2, r3, r4, r5, r6, r7⟩ := hrow
  have hbig : (xs.length + n) * 1 ≤ (xs.length + n) * i.bytes := Nat.mul_le_mul_left _ (Nat.pos_of_ne_zero hby)
  rcases Nat.eq_zero_or_pos n with rfl | hn
  · have hnil : news = [] := List.eq_nil_of_length_eq_zero (by simpa using hl)
    subst hnil
    refine ⟨w, m.blk, m.len, m.cap, run_append_none t ty e i ht hi _ _ _ _ _ r3, rfl, rfl, rfl, Nat.le_refl _, fun _ _ _ => rfl, .inl rfl, by rw [r2]; rfl, r3, r5, fun b' hb' => ?_⟩
    obtain ⟨vs, e', hh, hs, _⟩ := r7 b' hb'
    exact ⟨vs, e', hh, hs, fun b vs2 e2 hb hh2 q _ => by rw [hb'] at hb; cases hb; rw [hh] at hh2; cases hh2; rfl, fun q u hq => by simp at hq⟩
  · obtain ⟨a, rfl, hcells⟩ := hnews hn
    rcases hblk : m.blk with _ | b
    · have hc0 := r5 hblk
      have hx0 : xs.length = 0 := by omega
      have hr := run_append_nil (P := P) w t ty e i z ht hi hz a n cap news hl hcells hn (by omega) (by rw [hx0] at hbytes; simp at hbytes; omega)
      have hge := grownCap_ge w n 0 e
      refine ⟨w.drew.alloc (.cells (news.toArray ++ Builtin.zeroCells z.cells (grownCap w n 0 e - n)) e), some w.heap.size, n, grownCap w n 0 e, by rw [r2, hx0, hc0]; exact hr, rfl, rfl, rfl, by simp, fun b hb _ => heap_alloc_old w.drew _ b hb, .inr ⟨rfl, by simp⟩, by omega, hge, by simp, fun b' hb' => ?_⟩
      cases hb'
      refine ⟨_, e, heap_alloc_new w.drew _, ?_, (fun b vs e' hb => by cases hb), fun q u hq => ?_⟩
      · simp only [Array.size_append, List.size_toArray, size_zeroCells, hzs, hl, ← Nat.add_mul]
        congr 1; omega
      · have hql := (List.getElem?_eq_some_iff.1 hq).1
        rw [hx0, Array.getElem?_append_left (by simp; omega)]
        simpa using hq
    · obtain ⟨vs, e', hh, hs, hrr⟩ := r7 b hblk
      have hxc : xs.length * i.size ≤ vs.size := by rw [hs]; exact Nat.mul_le_mul_right _ (by omega)
      by_cases hroom : m.len + n ≤ m.cap
      · have hfit : xs.length * i.size + news.length ≤ vs.size := by rw [hl, hs, ← Nat.add_mul]; exact Nat.mul_le_mul_right _ (by omega)
        have hst := run_storeCells_at P b (xs.length * i.size) e' news 0 vs w hh (by simpa using hfit) h1
        simp only [Nat.add_zero] at hst
        have hf := run_firstCells_some (P := P) w i.size n a n cap news hl hcells
        refine ⟨w.setRow b (vs.toList.take (xs.length * i.size) ++ news ++ vs.toList.drop (xs.length * i.size + news.length)).toArray, some b, m.len + n, m.cap, ?_, rfl, rfl, rfl, by simp, fun b' _ hb' => setRow_other w b b' _ (fun h => hb' (by rw [h])), .inl rfl, by omega, hroom, by simp, fun b' hb' => ?_⟩
        · simp [Builtin.append_, run_underlying ht, sizeOf, typeInfo, hi, Builtin.lenOf, hroom, hf, mk0, Addr.add_lit, r2] at hst ⊢
          rw [if_pos (by omega)]
          simp [hst]
        · cases hb'
          refine ⟨_, e', setRow_heap w b vs _ e' (0, 0) hh, ?_, fun b2 vs2 e2 hb2 hh2 q hq => ?_, fun q u hq => ?_⟩
          · have := splice_length (cs := vs.toList) (vs := news) (off := xs.length * i.size) (by simpa using hfit)
            simpa [splice, hs] using this
          · cases hb2
            rw [hh] at hh2; cases hh2
            have := splice_get (cs := vs.toList) (vs := news) (off := xs.length * i.size) (by simpa using hfit) q
            rw [if_neg (by omega)] at this
            simpa [splice] using this
          · have hql := (List.getElem?_eq_some_iff.1 hq).1
            have := splice_get (cs := vs.toList) (vs := news) (off := xs.length * i.size) (by simpa using hfit) (xs.length * i.size + q)
            rw [if_pos (by omega)] at this
            simp only [splice, Nat.add_sub_cancel_left] at this
            rw [List.getElem?_toArray, this, hq]
      · have holds : ∀ j u, (vs.toList.take (xs.length * i.size))[j]? = some u → w.cell? ((mk0 b).add j) = some u := by
          intro j u hj
          rw [List.getElem?_take] at hj
          split at hj
          · simp [mk0, Addr.add_lit, World.cell?, hh]
            simpa using hj
          · cases hj
        have hlo : (vs.toList.take (xs.length * i.size)).length = m.len * i.size := by simp [r2]; omega
        have hr := run_append_grow (P := P) w t ty e i z ht hi hz (mk0 b) m.len m.cap _ hlo holds a n cap news hl hcells (by omega) (by omega) (growslice_fits (by omega) (by rw [r2]; exact hbytes))
        have hge := grownCap_ge w (m.len + n) m.cap e
        refine ⟨_, some w.heap.size, m.len + n, grownCap w (m.len + n) m.cap e, hr, rfl, rfl, rfl, by simp, fun b hb _ => heap_alloc_old w.drew _ b hb, .inr ⟨rfl, by simp⟩, by omega, hge, by simp, fun b' hb' => ?_⟩
        cases hb'
        refine ⟨_, e, heap_alloc_new w.drew _, ?_, fun b2 vs2 e2 hb2 hh2 q hq => ?_, fun q u hq => ?_⟩
        · simp only [Array.size_append, List.size_toArray, size_zeroCells, hzs, hl, hlo, ← Nat.add_mul]
          congr 1; omega
        · cases hb2
          rw [hh] at hh2; cases hh2
          rw [Array.getElem?_append_left (by simp; omega), Array.getElem?_append_left (by simp; omega)]
          simp [hq]
        · have hql := (List.getElem?_eq_some_iff.1 hq).1
          rw [Array.getElem?_append_left (by simp; omega), Array.getElem?_append_right (by simp; omega)]
          simp only [List.size_toArray, hlo, r2, Nat.add_sub_cancel_left]
          simpa using hq
end Go.Gn

namespace Go.Gn
open Go
set_option linter.unusedVariables false
set_option linter.unusedSimpArgs false
set_option linter.unusedSectionVars false
def Els (w : World) (sz : Nat) (R : Nat → Nat → D → Value → Prop) (ys : List (List D)) (v : Value) : Prop :=
  ∃ (A : Option Addr) (cap : Nat) (news : List Value), v = .slice A ys.length cap ∧ news.length = ys.length * sz ∧ (0 < ys.length → ∃ a, A = some a ∧ ∀ j u, news[j]? = some u → w.cell? (a.add j) = some u) ∧ (∀ u ∈ news, u.oneCell' = true) ∧ (∀ el ∈ ys, el.length = sz) ∧
    ∀ (j : Nat) (el : List D) (i : Nat) (d : D), ys[j]? = some el → el[i]? = some d → ∃ u, news[j * sz + i]? = some u ∧ R j i d u
theorem els_nil {w : World} {sz : Nat} {R : Nat → Nat → D → Value → Prop} (A : Option Addr) (cap : Nat) : Els w sz R [] (.slice A 0 cap) :=
  ⟨A, cap, [], rfl, by simp, fun h => absurd h (Nat.lt_irrefl 0), by simp, by simp, fun j el i d h => by simp at h⟩
theorem els_of {w : World} {sz : Nat} {R : Nat → Nat → D → Value → Prop} {ys : List (List D)} {b off cap : Nat} {A : Option Addr} (hA : 0 < ys.length → A = some ⟨b, off, none⟩)
    (h : ∀ (j : Nat) (el : List D), ys[j]? = some el → el.length = sz ∧ ∀ (i : Nat) (d : D), el[i]? = some d → ∃ u, cellAt w b (off + j * sz + i) = some u ∧ u.oneCell' = true ∧ R j i d u) : Els w sz R ys (.slice A ys.length cap) := by
  have cell : ∀ p, p < ys.length * sz → ∃ u, cellAt w b (off + p) = some u ∧ u.oneCell' = true := by
    intro p hp
    have hs : 0 < sz := by rcases Nat.eq_zero_or_pos sz with h | h; · rw [h] at hp; simp at hp
                           · exact h
    have hj : p / sz < ys.length := Nat.div_lt_of_lt_mul (by rwa [Nat.mul_comm])
    obtain ⟨h1, h2⟩ := h (p / sz) _ (List.getElem?_eq_getElem hj)
    have hi : p % sz < (ys[p / sz]).length := by rw [h1]; exact Nat.mod_lt _ hs
    obtain ⟨u, hu, ho, _⟩ := h2 (p % sz) _ (List.getElem?_eq_getElem hi)
    refine ⟨u, ?_, ho⟩
    rw [Nat.add_assoc, Nat.mul_comm, Nat.div_add_mod] at hu
    exact hu
  have get : ∀ p, ((List.range (ys.length * sz)).map fun p => (cellAt w b (off + p)).getD undef)[p]? = if p < ys.length * sz then some ((cellAt w b (off + p)).getD undef) else none := by
    intro p
    by_cases hp : p < ys.length * sz
    · simp [hp]
    · simp [hp]
  refine ⟨A, cap, (List.range (ys.length * sz)).map fun p => (cellAt w b (off + p)).getD undef, rfl, by simp, fun hp => ⟨_, hA hp, fun j u hj => ?_⟩, fun u hu => ?_, fun el hel => ?_, fun j el i d hj hi => ?_⟩
  · rw [get] at hj
    split at hj
    · rename_i hlt
      obtain ⟨v, hv, _⟩ := cell j hlt
      rw [hv] at hj
      simp at hj
      subst hj
      rw [add_none]
      exact hv
    · cases hj
  · obtain ⟨j, hj⟩ := List.getElem?_of_mem hu
    rw [get] at hj
    split at hj
    · rename_i hlt
      obtain ⟨v, hv, ho⟩ := cell j hlt
      rw [hv] at hj
      simp at hj
      subst hj
      exact ho
    · cases hj
  · obtain ⟨j, hj⟩ := List.getElem?_of_mem hel
    exact (h j el hj).1
  · obtain ⟨h1, h2⟩ := h j el hj
    obtain ⟨u, hu, ho, hr⟩ := h2 i d hi
    have hi' : i < sz := by rw [← h1]; exact (List.getElem?_eq_some_iff.1 hi).1
    have hlt : j * sz + i < ys.length * sz := by
      have : (j + 1) * sz ≤ ys.length * sz := Nat.mul_le_mul_right _ (List.getElem?_eq_some_iff.1 hj).1
      rw [Nat.add_mul] at this; omega
    refine ⟨u, ?_, hr⟩
    rw [get, if_pos hlt, ← Nat.add_assoc, hu]
    rfl
theorem els_repD {S : Nat → Prop} {w : World} {sz : Nat} {ys : List (List D)} {v : Value} (h : RepD S w (.sl ys) v) (hs : szOk sz ys = true) : Els w sz (fun _ _ d u => RepD S w d u) ys v := by
  cases h with
  | nil A c => exact els_nil A c
  | sl _ b off sz' cap f hne hb hc hcell hrep =>
    have he : sz' = sz := by
      rcases ys with _ | ⟨y, ys⟩
      · exact absurd rfl hne
      · have := (hcell 0 y rfl).1
        simp only [szOk] at hs
        rw [← this]
        exact Nat.eq_of_beq_eq_true hs
    subst he
    exact els_of (fun _ => rfl) fun j el hj => ⟨(hcell j el hj).1, fun i d hi => ⟨_, (hcell j el hj).2 i d hi, (hrep j el i d hj hi).one, hrep j el i d hj hi⟩⟩
theorem Els.mono {w : World} {sz : Nat} {R R' : Nat → Nat → D → Value → Prop} {ys : List (List D)} {v : Value} (h : Els w sz R ys v) (hr : ∀ j i d u, R j i d u → R' j i d u) : Els w sz R' ys v := by
  obtain ⟨A, cap, news, h1, h2, h3, h4, h5, h6⟩ := h
  refine ⟨A, cap, news, h1, h2, h3, h4, h5, fun j el i d hj hi => ?_⟩
  obtain ⟨u, hu, hru⟩ := h6 j el i d hj hi
  exact ⟨u, hu, hr _ _ _ _ hru⟩
theorem Els.scrub {S S' : Nat → Prop} {w : World} {sz : Nat} {ys : List (List D)} {v : Value} (h : Els w sz (fun _ _ d u => RepD S w d u) ys v) : Els w sz (fun _ _ d u => RepD S' w d u) (ys.map (·.map D.scrub)) v := by
  obtain ⟨A, cap, news, h1, h2, h3, h4, h5, h6⟩ := h
  refine ⟨A, cap, news, by simpa using h1, by simpa using h2, by simpa using h3, h4, fun el hel => ?_, fun j el i d hj hi => ?_⟩
  · obtain ⟨x, hx, rfl⟩ := List.mem_map.1 hel
    simpa using h5 x hx
  · simp only [List.getElem?_map, Option.map_eq_some_iff] at hj
    obtain ⟨x, hx, rfl⟩ := hj
    simp only [List.getElem?_map, Option.map_eq_some_iff] at hi
    obtain ⟨d, hd, rfl⟩ := hi
    obtain ⟨u, hu, hr⟩ := h6 j x i d hx hd
    refine ⟨u, hu, ?_⟩
    cases d with
    | int k n => cases hr; exact .int _ _
    | bool b => cases hr; exact .bool _
    | str s => cases hr; exact .str _
    | sl xs => exact .top _ hr.one
    | top => exact .top _ hr.one
theorem view_get {α : Type} {xs : List α} {lo len : Nat} (h : lo + len ≤ xs.length) : (view xs lo len).length = len ∧ ∀ j x, (view xs lo len)[j]? = some x → xs[lo + j]? = some x := by
  refine ⟨by simp [view]; omega, fun j x hj => ?_⟩
  simp only [view, List.getElem?_take, List.getElem?_drop] at hj
  split at hj
  · exact hj
  · cases hj
theorem els_row {imm S : Nat → Prop} {w : World} {m : Meta} {sz k c0 : Nat} {xs : List (List D)} (h : RepRow imm w m sz k c0 xs) (hs : ∀ b, imm b → S b) (hn : ∀ j b, j < k → m.nest j = some b → S b) {lo len cap : Nat} {A : Option Addr} (hA : 0 < len → ∃ b, m.blk = some b ∧ A = some ⟨b, lo * m.sz, none⟩) (hl : lo + len ≤ xs.length) :
    Els w sz (fun _ _ d u => RepD S w d u) (view xs lo len) (.slice A len cap) := by
  obtain ⟨v1, v2⟩ := view_get hl
  rcases Nat.eq_zero_or_pos len with rfl | hp
  · have : view xs lo 0 = [] := by simp [view]
    rw [this]; exact els_nil A cap
  · obtain ⟨b, hb, rfl⟩ := hA hp
    obtain ⟨h1, h2, h3, h4, h5, h6, h7⟩ := h.flat hs hn
    obtain ⟨vs, e, hh, hsz, hr⟩ := h7 b hb
    have := els_of (w := w) (sz := sz) (R := fun _ _ d u => RepD S w d u) (ys := view xs lo len) (b := b) (off := lo * m.sz) (cap := cap) (A := some ⟨b, lo * m.sz, none⟩) (fun _ => rfl) (fun j el hj => by
      have hj' := v2 j el hj
      refine ⟨h6 el (List.mem_of_getElem? hj'), fun i d hi => ?_⟩
      obtain ⟨u, hu, hru⟩ := hr (lo + j) el i d hj' hi
      rw [if_neg (by omega)] at hru
      refine ⟨u, ?_, hru.one, hru⟩
      unfold cellAt World.cell?
      simp only [hh, h1]
      rw [← Nat.add_mul]
      simpa using hu)
    rwa [v1] at this
theorem app_step {P : Program} {w w0 : World} {c : Cx} {os : List Obj} (hst : Store w0 c os w) {nb : Nat} (hnb : c.μ nb = none) (t ty e : TypeId) (i : TypeInfo) (z : Value) (ht : P.underlying t = some (.slice e)) (hi : P.info? e = some i) (hz : i.zero = some z) (hzs : z.cells.size = i.size) (hby : i.bytes ≠ 0)
    {m : Meta} {k c0 : Nat} {xs ys : List (List D)} (hrow : RepRow c.imm w m i.size k c0 xs) {xv : Value} (os1 : List Obj) (hos1 : ∀ q, os1.getD q .dead = os.getD q .dead ∨ os1.getD q .dead = .dead)
    (k' c0' : Nat) (nest' : Nat → Option Nat) (Rr : Option Nat → Nat → Option Nat → Prop) (hinj : ∀ l l' q lq, Rr l q lq → Rr l' q lq → l = l')
    (hnone : ∀ b, m.blk = some b → ∃ q lq, Owns c.μ os q lq b ∧ os1.getD q .dead = .dead ∧ Rr none q lq) (hsome : ∀ j b, j < k' → nest' j = some b → ∃ q lq, Owns c.μ os q lq b ∧ os1.getD q .dead = .dead ∧ Rr (some j) q lq)
    (hn1 : ∀ j, j < k → nest' j = m.nest j) (hk' : k' ≤ xs.length + ys.length ∧ (c0' < i.size → ∀ j, k' ≤ j → nest' j = none)) (hkk : ∀ j, j < xs.length → (j < k' ↔ j < k) ∧ c0' = c0)
    (hels : Els w i.size (fun j q d u => if xs.length + j < k' ∧ q = c0' then RepN c.imm w ⟨none, 0, 0, 0, nest'⟩ (xs.length + j) d u else RepD c.imm w d u) ys xv) (hbytes : (xs.length + ys.length) * i.bytes ≤ 140737488355328) :
    ∃ w' m', (Builtin.append_ #[t, t] ty #[.slice (m.blk.map mk0) m.len m.cap, xv]).run P w = .ok (.slice (m'.blk.map mk0) m'.len m'.cap) w' ∧ Store w0 (c.with nb m') (setAt os1 nb (.row i.size k' c0' (xs ++ ys))) w' ∧ Ext c w (c.with nb m') w' := by
  obtain ⟨A, cap, news, rfl, hl, hcells, hone, hyl, hrep⟩ := hels
  obtain ⟨w', blk, len', cap', hrun, s1, s2, s3, s4, s5, s6, s7, s8, s9, s10⟩ := app_core (c := c) t ty e i z ht hi hz hzs hby hrow A ys.length cap news hl hcells hone hbytes
  obtain ⟨r1, r2, r3, r4, r5, r6, r7⟩ := hrow
  have hsep : ∀ j b, j < k' → nest' j = some b → m.blk ≠ some b ∧ b < w.heap.size := by
    intro j b hj hb
    obtain ⟨q, lq, h1, h2, h3⟩ := hsome j b hj hb
    refine ⟨fun hh => ?_, (hst.lt _ _ _ h1).1⟩
    obtain ⟨q', lq', h1', h2', h3'⟩ := hnone b hh
    obtain ⟨rfl, rfl⟩ := hst.uniq _ _ _ _ _ h1 h1'
    have := hinj _ _ _ _ h3 h3'
    cases this
  have hgn : (setAt os1 nb (.row i.size k' c0' (xs ++ ys))).getD nb .dead = .row i.size k' c0' (xs ++ ys) := by rw [getD_setAt, if_pos rfl]
  have hownb : ∀ l b, Owns (c.with nb ⟨blk, i.size, len', cap', nest'⟩).μ (setAt os1 nb (.row i.size k' c0' (xs ++ ys))) nb l b → (b = w.heap.size ∧ w.heap.size < w'.heap.size ∧ l = none) ∨ ∃ q lq, Owns c.μ os q lq b ∧ os1.getD q .dead = .dead ∧ Rr l q lq := by
    rintro l b ⟨m1, hm1, ho⟩
    simp only [Cx.with, if_true, Option.some.injEq] at hm1
    subst hm1
    rw [hgn] at ho
    cases l with
    | none =>
      have ho : blk = some b := ho
      rcases s6 with h | ⟨h, h'⟩
      · exact .inr (hnone b (by rw [← h]; exact ho))
      · rw [h] at ho; cases ho; exact .inl ⟨rfl, h', rfl⟩
    | some j => exact .inr (hsome j b ho.1 ho.2)
  obtain ⟨t1, t2⟩ := hst.morph hnb os1 hos1 (.row i.size k' c0' (xs ++ ys)) ⟨blk, i.size, len', cap', nest'⟩ w' (fun b => m.blk = some b) s4 ⟨s1, s2, s3⟩ s5
    (fun b hb => by obtain ⟨q, lq, h1, h2, _⟩ := hnone b hb; exact ⟨q, lq, h1, h2⟩)
    (fun l b ho => by
      rcases hownb l b ho with ⟨h1, h2, _⟩ | ⟨q, lq, h1, h2, _⟩
      · exact .inl ⟨h1, h2⟩
      · exact .inr ⟨q, lq, h1, h2⟩)
    (fun l l' b h1 h2 => by
      rcases hownb l b h1 with ⟨e1, _, rfl⟩ | ⟨q, lq, o1, d1, e1⟩ <;> rcases hownb l' b h2 with ⟨e2, _, rfl⟩ | ⟨q', lq', o2, d2, e2⟩
      · rfl
      · subst e1; exact absurd (hst.lt _ _ _ o2).1 (Nat.lt_irrefl _)
      · subst e2; exact absurd (hst.lt _ _ _ o1).1 (Nat.lt_irrefl _)
      · obtain ⟨rfl, rfl⟩ := hst.uniq _ _ _ _ _ o1 o2
        exact hinj _ _ _ _ e1 e2)
    (fun ext => by
      refine ⟨rfl, by simpa using s7, s8, ⟨by simpa using hk'.1, hk'.2⟩, s9, fun el hel => ?_, fun b' hb' => ?_⟩
      · rcases List.mem_append.1 hel with h | h
        · exact r6 el h
        · exact hyl el h
      · obtain ⟨vs', e', hh', hs', ho', hn'⟩ := s10 b' hb'
        refine ⟨vs', e', hh', hs', fun j el q d hj hq => ?_⟩
        rw [List.getElem?_append] at hj
        split at hj
        · rename_i hjl
          cases hblk : m.blk with
          | none => have := r5 hblk; omega
          | some b =>
            obtain ⟨vs, e2, hh, hs, hr⟩ := r7 b hblk
            obtain ⟨v, hv, hrep⟩ := hr j el q d hj hq
            have hql : q < i.size := by rw [← r6 el (List.mem_of_getElem? hj)]; exact (List.getElem?_eq_some_iff.1 hq).1
            have hpl : j * i.size + q < xs.length * i.size := by
              have : (j + 1) * i.size ≤ xs.length * i.size := Nat.mul_le_mul_right _ hjl
              rw [Nat.add_mul] at this; omega
            refine ⟨v, by rw [ho' b vs e2 hblk hh _ hpl]; exact hv, ?_⟩
            obtain ⟨hk1, hk2⟩ := hkk j hjl
            split at hrep
            · rename_i hc
              rw [if_pos ⟨hk1.2 hc.1, hc.2.trans hk2.symm⟩]
              refine (hrep.mono ext.ki ext.imm (fun b1 hb1 => ?_)).congr (by exact hn1 j hc.1)
              have := hsep j b1 (hk1.2 hc.1) (by rw [hn1 j hc.1]; exact hb1)
              exact s5 b1 this.2 this.1
            · rename_i hc
              rw [if_neg (fun h => hc ⟨hk1.1 h.1, h.2.trans hk2⟩)]
              exact hrep.mono ext.ki ext.imm
        · rename_i hjl
          obtain ⟨u, hu, hru⟩ := hrep (j - xs.length) el q d hj hq
          have e3 : xs.length + (j - xs.length) = j := by omega
          rw [e3] at hru
          have e4 : j * i.size + q = xs.length * i.size + ((j - xs.length) * i.size + q) := by
            rw [← Nat.add_assoc, ← Nat.add_mul, e3]
          refine ⟨u, by rw [e4]; exact hn' _ _ hu, ?_⟩
          split at hru
          · rename_i hc
            rw [if_pos hc]
            refine (hru.mono ext.ki ext.imm (fun b1 hb1 => ?_)).congr rfl
            have := hsep j b1 hc.1 hb1
            exact s5 b1 this.2 this.1
          · rename_i hc
            rw [if_neg hc]
            exact hru.mono ext.ki ext.imm)
  exact ⟨w', ⟨blk, i.size, len', cap', nest'⟩, hrun, t1, t2⟩
end Go.Gn

namespace Go.Gn
open Go
set_option linter.unusedVariables false
set_option linter.unusedSimpArgs false
set_option linter.unusedSectionVars false
theorem view_all {α : Type} (xs : List α) : view xs 0 xs.length = xs := by simp [view]
theorem els_whole {imm S : Nat → Prop} {w : World} {m : Meta} {sz k c0 : Nat} {xs : List (List D)} (h : RepRow imm w m sz k c0 xs) (hs : ∀ b, imm b → S b) (hn : ∀ j b, j < k → m.nest j = some b → S b) :
    Els w sz (fun _ _ d u => RepD S w d u) xs (.slice (m.blk.map mk0) m.len m.cap) := by
  have := els_row h hs hn (lo := 0) (len := xs.length) (cap := m.cap) (A := m.blk.map mk0) (fun hp => by
    obtain ⟨h1, h2, h3, h4, h5, _⟩ := h
    cases hb : m.blk with
    | none => have := h5 hb; omega
    | some b => exact ⟨b, rfl, by simp [mk0]⟩) (by omega)
  rw [view_all] at this
  rwa [h.2.1]
theorem take_plain {w0 : World} {c : Cx} {os : List Obj} {w : World} (h : Store w0 c os w) {own : Bool} {sz : Nat} {x : AV} {v : Value} (hx : RepAV c w x v) {ys : List (List D)} {os' : List Obj} (ht : takeEls own sz x os = some (ys, none, os')) :
    ∃ c', Frz w0 c os w c' os' ∧ Els w sz (fun _ _ d u => RepD c'.imm w d u) ys v := by
  have refl : Frz w0 c os w c os := ⟨h, Ext.refl _ _, rfl, fun _ _ _ _ _ hx => hx⟩
  cases x <;> simp only [takeEls, reduceCtorEq] at ht
  case sl m xs =>
    cases hx with
    | sl _ _ _ hr =>
    cases m
    · simp only at ht
      split at ht
      · rename_i hs
        cases ht
        exact ⟨c, refl, (els_repD hr hs).scrub⟩
      · cases ht
    · simp only at ht
      split at ht
      · rename_i hs
        cases ht
        exact ⟨c, refl, els_repD hr hs⟩
      · cases ht
  case nils =>
    cases ht
    cases hx
    exact ⟨c, refl, els_nil _ _⟩
  case hw o =>
    cases hx with
    | hw _ m hm =>
    split at ht
    · rename_i s' c0 xs hxs
      split at ht
      · rename_i hs
        cases ht
        subst hs
        obtain ⟨m', hm', hr⟩ := h.obj o _ hxs (by simp)
        rw [hm] at hm'; cases hm'
        exact ⟨c, refl, els_whole hr (fun _ h => h) (fun j b hj _ => absurd hj (Nat.not_lt_zero j))⟩
      · cases ht
    · rename_i s' k c0 xs hxs
      split at ht
      · rename_i hs
        cases ht
        subst hs
        obtain ⟨m', hm', hr⟩ := h.obj o _ hxs (by simp)
        rw [hm] at hm'; cases hm'
        exact ⟨c, refl, (els_whole hr (S := fun _ => True) (fun _ _ => trivial) (fun _ _ _ _ => trivial)).scrub⟩
      · cases ht
    · rename_i s' xs hxs
      split at ht
      · rename_i hs
        cases ht
        subst hs
        obtain ⟨m', hm', hr⟩ := h.obj o _ hxs (by simp)
        rw [hm] at hm'; cases hm'
        exact ⟨c, refl, els_whole hr.1 (fun _ h => h) (fun j b hj _ => absurd hj (Nat.not_lt_zero j))⟩
      · cases ht
    · cases ht
  case hs o lo len =>
    cases hx with
    | hs _ _ _ A cap m hm hc hA =>
    split at ht
    · rename_i s' c0 xs hxs
      split at ht
      · rename_i hs
        cases ht
        obtain ⟨rfl, hl⟩ := hs
        obtain ⟨m', hm', hr⟩ := h.obj o _ hxs (by simp)
        rw [hm] at hm'; cases hm'
        exact ⟨c, refl, els_row hr (fun _ h => h) (fun j b hj _ => absurd hj (Nat.not_lt_zero j)) hA hl⟩
      · cases ht
    · rename_i s' k c0 xs hxs
      split at ht
      · rename_i hs
        cases ht
        obtain ⟨rfl, hl⟩ := hs
        obtain ⟨m', hm', hr⟩ := h.obj o _ hxs (by simp)
        rw [hm] at hm'; cases hm'
        exact ⟨c, refl, (els_row hr (S := fun _ => True) (fun _ _ => trivial) (fun _ _ _ _ => trivial) hA hl).scrub⟩
      · cases ht
    · rename_i s' xs hxs
      split at ht
      · rename_i hs
        cases ht
        obtain ⟨rfl, hl⟩ := hs
        obtain ⟨m', hm', hr⟩ := h.obj o _ hxs (by simp)
        rw [hm] at hm'; cases hm'
        exact ⟨c, refl, els_row hr.1 (fun _ h => h) (fun j b hj _ => absurd hj (Nat.not_lt_zero j)) hA hl⟩
      · cases ht
    · rename_i cs hcs
      split at ht
      · rename_i hlo
        obtain ⟨rfl, hcl⟩ := hlo
        obtain ⟨m', hm', b, vs, e, hb, hh, hrs⟩ := h.obj o _ hcs (by simp)
        rw [hm] at hm'; cases hm'
        have fin : ∀ {ys os'}, (match freezeL cs os with | some (ds, os') => some (chunks sz len ds, (none : Option (Nat × Nat)), os') | none => none) = some (ys, none, os') → ∃ c', Frz w0 c os w c' os' ∧ Els w sz (fun _ _ d u => RepD c'.imm w d u) ys (.slice A len cap) := by
          intro ys os' ht
          split at ht
          · rename_i ds os2 hds
            cases ht
            obtain ⟨c', fz, hdl, hdr⟩ := freezeL_rep h hrs hds
            obtain ⟨g1, g2⟩ := chunks_get sz len ds (by omega)
            refine ⟨c', fz, ?_⟩
            have := els_of (w := w) (sz := sz) (R := fun _ _ d u => RepD c'.imm w d u) (ys := chunks sz len ds) (b := b) (off := 0) (cap := cap) (A := A) (fun hp => by
              obtain ⟨b', hb', hA'⟩ := hA (by omega)
              rw [hb] at hb'; cases hb'
              simpa using hA') (fun j el hj => by
              obtain ⟨g3, g4⟩ := g2 j el hj
              refine ⟨g3, fun i d hi => ?_⟩
              have hil : i < sz := by rw [← g3]; exact (List.getElem?_eq_some_iff.1 hi).1
              rw [g4 i hil] at hi
              obtain ⟨u, hu, hur⟩ := hdr _ _ hi
              refine ⟨u, ?_, hur.one, hur⟩
              unfold cellAt World.cell?
              simp only [hh]
              simpa using hu)
            rwa [g1] at this
          · cases ht
        split at ht
        · split at ht
          · rename_i o' _
            split at ht
            · cases ht
            · split at ht
              · split at ht
                · cases ht
                · cases ht
              · cases ht
          · cases ht
        · exact fin ht
      · cases ht
    · cases ht
theorem append_types {P : Program} {w : World} {at_ : Array TypeId} {t t1 ty e e1 : TypeId} (h0 : at_[0]? = some t) (h1 : at_[1]? = some t1) (hu : P.underlying t = some (.slice e)) (hu1 : P.underlying t1 = some (.slice e1)) (s x : Value) :
    (Builtin.append_ at_ ty #[s, x]).run P w = (Builtin.append_ #[t, t] ty #[s, x]).run P w := by
  cases s <;> simp [Builtin.append_, h0, h1, run_underlying hu, run_underlying hu1]
theorem take_own {w0 : World} {c : Cx} {os : List Obj} {w : World} (h : Store w0 c os w) {own : Bool} {sz : Nat} {x : AV} {v : Value} (hx : RepAV c w x v) {ys : List (List D)} {c1 o' : Nat} {os' : List Obj} (ht : takeEls own sz x os = some (ys, some (c1, o'), os')) :
    ∃ mo, c.μ o' = some mo ∧ ys.length = 1 ∧ os' = os.set o' .dead ∧ (∀ b, mo.blk = some b → Owns c.μ os o' none b) ∧ o' < os.length ∧
      ∀ k nest', nest' k = mo.blk → Els w sz (fun j q d u => if k + j < k + 1 ∧ q = c1 then RepN c.imm w ⟨none, 0, 0, 0, nest'⟩ (k + j) d u else RepD c.imm w d u) ys v := by
  cases x <;> simp only [takeEls, reduceCtorEq] at ht
  case sl m xs => cases m <;> simp only at ht <;> split at ht <;> cases ht
  case nils => cases ht
  case hw o => split at ht <;> first | (split at ht <;> cases ht) | cases ht
  case hs o lo len =>
    cases hx with
    | hs _ _ _ A cap m hm hc hA =>
    split at ht
    · split at ht <;> cases ht
    · split at ht <;> cases ht
    · split at ht <;> cases ht
    · rename_i cs hcs
      split at ht
      · rename_i hlo
        obtain ⟨rfl, hcl⟩ := hlo
        obtain ⟨m', hm', b, vs, e, hb, hh, hrs⟩ := h.obj o _ hcs (by simp)
        rw [hm] at hm'; cases hm'
        split at ht
        · rename_i c0 _
          split at ht
          · rename_i o2 ho2
            split at ht
            · cases ht
            · rename_i hne
              split at ht
              · rename_i c0' zs hzs
                split at ht
                · rename_i ds hds
                  cases ht
                  obtain ⟨vo, hvo, hro⟩ := hrs.get _ _ ho2
                  cases hro with
                  | hw _ mo hmo =>
                  have hrow : RepRow c.imm w mo 1 0 c0' zs := by
                    obtain ⟨m', hm', hr⟩ := h.obj _ _ hzs (by simp)
                    rw [hmo] at hm'; cases hm'
                    exact hr
                  refine ⟨mo, hmo, rfl, rfl, fun b' hb' => ⟨mo, hmo, by rw [hzs]; exact hb'⟩, getD_lt hzs (by simp), fun k nest' hn => ?_⟩
                  obtain ⟨hdl, hdg⟩ := toDs_get hds
                  have hdl' : ds.length = sz := by simp at hdl; omega
                  have hc1 : c1 < cs.length := (List.getElem?_eq_some_iff.1 ho2).1
                  obtain ⟨b', hb', hA'⟩ := hA (by omega)
                  rw [hb] at hb'; cases hb'
                  refine els_of (ys := [ds.set c1 (.sl zs)]) (b := b) (off := 0) (fun _ => by simpa using hA') (fun j el hj => ?_)
                  have hj0 : j = 0 := by have := (List.getElem?_eq_some_iff.1 hj).1; simp at this; omega
                  subst hj0
                  simp at hj; subst hj
                  refine ⟨by simpa using hdl', fun i d hi => ?_⟩
                  by_cases hic : i = c1
                  · subst hic
                    rw [List.getElem?_set_self (by omega)] at hi
                    cases hi
                    refine ⟨.slice (mo.blk.map mk0) mo.len mo.cap, ?_, rfl, ?_⟩
                    · unfold cellAt World.cell?
                      simp only [hh]
                      simpa using hvo
                    · rw [if_pos ⟨by omega, rfl⟩]
                      obtain ⟨o1, o2, o3, o4, o5, o6, o7⟩ := hrow
                      refine ⟨zs, rfl, ?_⟩
                      by_cases hmb : ∃ b', mo.blk = some b'
                      · obtain ⟨b', hmb⟩ := hmb
                        obtain ⟨vs1, e1, hh1, hs1, hr1⟩ := o7 b' hmb
                        refine .inr ⟨b', mo.cap, vs1, e1, by simp [hn, hmb], by rw [hmb, o2]; rfl, hh1, by omega, by omega, fun i2 el2 hi2 => ?_⟩
                        have hl2 := o6 el2 (List.mem_of_getElem? hi2)
                        obtain ⟨d2, rfl⟩ := List.length_eq_one_iff.1 hl2
                        obtain ⟨v2, hv2, hd2⟩ := hr1 i2 _ 0 d2 hi2 rfl
                        rw [if_neg (by omega)] at hd2
                        exact ⟨d2, v2, rfl, by simpa using hv2, hd2⟩
                      · have hmb : mo.blk = none := by rcases h : mo.blk with _ | b'
                                                       · rfl
                                                       · exact absurd ⟨b', h⟩ hmb
                        have := o5 hmb
                        have hy0 : zs = [] := List.eq_nil_of_length_eq_zero (by omega)
                        exact .inl ⟨by simp [hn, hmb], hy0, none, mo.cap, by rw [hmb, show mo.len = 0 by omega]; rfl⟩
                  · rw [List.getElem?_set_ne (fun h => hic h.symm)] at hi
                    obtain ⟨a, ha, had⟩ := hdg i d hi
                    rw [List.getElem?_set_ne (fun h => hic h.symm)] at ha
                    obtain ⟨u, hu, hur⟩ := hrs.get i a ha
                    have hd := toD_rep hur had
                    refine ⟨u, ?_, hd.one, by rw [if_neg (fun h => hic h.2)]; exact hd⟩
                    unfold cellAt World.cell?
                    simp only [hh]
                    simpa using hu
                · cases ht
              · cases ht
          · cases ht
        · split at ht <;> cases ht
      · cases ht
    · cases ht
theorem rep_row_nil (c : Cx) (w : World) (sz c0 : Nat) : RepRow c.imm w ⟨none, sz, 0, 0, fun _ => none⟩ sz 0 c0 [] :=
  ⟨rfl, rfl, Nat.le_refl _, ⟨Nat.le_refl _, fun _ _ _ => rfl⟩, fun _ => rfl, (fun el h => by cases h), (fun b h => by cases h)⟩
theorem set_dead (os : List Obj) (o q : Nat) : (os.set o .dead).getD q .dead = os.getD q .dead ∨ (os.set o .dead).getD q .dead = .dead := by
  rw [getD_set]; split
  · exact .inr rfl
  · exact .inl rfl
section
variable {P : Program} {c : Cx} {w w0 : World} {nt : Nat} {ts : Ts} {a : Act} {os : List Obj} (hf : Frm c w nt ts a) (hst : Store w0 c os w)
include hf hst
theorem d_app {o : Oper} {t t1 e e1 : TypeId} {cl : Call} {s x : Operand} {S' X' : X} {i : TypeInfo} {zs : List AV} {own : Bool} {nb : Nat} {v : AV} {os' : List Obj} (hnb : c.μ nb = none) (hu : P.underlying t = some (.slice e)) (hu1 : P.underlying t1 = some (.slice e1)) (hi : P.info? e = some i) (hz : zs? P e = some zs) (hzl : zs.length = i.size)
    (ho : o.op = .call cl) (hcl : cl.callee = .builtin .append) (h0 : cl.argTypes[0]? = some t) (h1 : cl.argTypes[1]? = some t1) (hargs : cl.args.toList = [s, x]) (hs : cX s = some S') (hx : cX x = some X')
    (hv : appAV own i.size i.bytes nb (getX ts S') (getX ts X') os = some (v, os')) : Does P o a w w0 c nb v os' := by
  obtain ⟨i', z, hi', hzz, hr⟩ := zs_rep (c := c) (w := w) hz
  rw [hi] at hi'; cases hi'
  have hzs : z.cells.size = i.size := by have := hr.length; simp at this; omega
  have hargs' : cl.args = #[s, x] := by cases hcl' : cl.args; simp_all
  have r1 := rep_X hf hs
  have r2 := rep_X hf hx
  have hrun : ∀ v' w', (Builtin.append_ #[t, t] t #[a.eval s, a.eval x]).run P w = .ok v' w' → (execOp a.eval o).run P w = .ok (.value v') w' := by
    intro v' w' h
    rw [← append_types h0 h1 hu hu1] at h
    have h : ∀ ty, (Builtin.append_ cl.argTypes ty #[a.eval s, a.eval x]).run P w = .ok v' w' := fun _ => h
    simp [execOp, ho, resolve, hcl, invoke, builtin, hargs', h]
  generalize getX ts S' = aS at r1 hv
  generalize getX ts X' = ax at r2 hv
  generalize a.eval s = vs at r1 hrun
  generalize a.eval x = vx at r2 hrun
  unfold appAV at hv
  split at hv
  · cases hv
  · rename_i ys c? os1 htake
    split at hv
    · cases hv
    · rename_i hby
      cases aS <;> simp only [reduceCtorEq] at hv
      case nils =>
        cases r1
        split at hv
        · rename_i hbytes
          cases hv
          rcases c? with _ | ⟨c1, o'⟩
          · obtain ⟨c', fz, hels⟩ := take_plain hst r2 htake
            obtain ⟨w', m', h1, h2, h3⟩ := app_step (ys := ys) fz.st (by rw [fz.mu]; exact hnb) t t e i z hu hi hzz hzs hby (rep_row_nil c' w i.size 0) os1 (fun _ => .inl rfl) 0 0 (fun _ => none) (fun _ _ _ => False) (fun _ _ _ _ h => h.elim) (fun b hb => by cases hb) (fun j b hj _ => absurd hj (Nat.not_lt_zero j)) (fun j hj => absurd hj (Nat.not_lt_zero j)) ⟨Nat.zero_le _, fun _ _ _ => rfl⟩ (fun j hj => absurd hj (Nat.not_lt_zero j)) (hels.mono fun j q d u h => by rw [if_neg (by simp)]; exact h) (by simpa using hbytes)
            refine ⟨_, w', _, _, hrun _ _ h1, .inl rfl, h2, fz.ext.trans h3, .hw nb m' (by simp [Cx.with]), fun q hq => ?_⟩
            rcases with_new q hq with h | h
            · left; rw [fz.mu] at h; exact h
            · exact .inr h
          · obtain ⟨mo, hmo, hyl, rfl, hown, hol, hels⟩ := take_own hst r2 htake
            obtain ⟨w', m', h1, h2, h3⟩ := app_step (ys := ys) hst hnb t t e i z hu hi hzz hzs hby (rep_row_nil c w i.size c1) (os.set o' .dead) (set_dead os o') 1 c1 (fun j => if j = 0 then mo.blk else none) (fun l q lq => l = some 0 ∧ q = o' ∧ lq = none) (fun _ _ _ _ h h' => h.1.trans h'.1.symm) (fun b hb => by cases hb) (fun j b hj hb => by
                have : j = 0 := by omega
                subst this
                exact ⟨o', none, hown b (by simpa using hb), by rw [getD_set, if_pos ⟨rfl, hol⟩], rfl, rfl, rfl⟩) (fun j hj => absurd hj (Nat.not_lt_zero j)) ⟨by simp [hyl], fun _ (j : Nat) hj => if_neg (Nat.ne_of_gt hj)⟩ (fun j hj => absurd hj (Nat.not_lt_zero j)) (by simpa using hels 0 (fun j => if j = 0 then mo.blk else none) rfl) (by simpa using hbytes)
            exact ⟨_, w', _, _, hrun _ _ h1, .inl rfl, h2, h3, .hw nb m' (by simp [Cx.with]), with_new⟩
        · cases hv
      case hw q =>
        cases r1 with
        | hw _ m hm =>
        split at hv
        · rename_i s' k c0 xs hxs
          split at hv
          · rename_i hc
            obtain ⟨rfl, hbytes⟩ := hc
            split at hv
            · rename_i c1
              split at hv
              · rename_i hc1
                obtain ⟨hne, rfl, hcc⟩ := hc1
                cases hv
                obtain ⟨c1, o'⟩ := c1
                obtain ⟨mo, hmo, hyl, rfl, hown, hol, hels⟩ := take_own hst r2 htake
                rw [getD_set] at hxs
                split at hxs
                · cases hxs
                · obtain ⟨m', hm', hrow⟩ := hst.obj q _ hxs (by simp)
                  rw [hm] at hm'; cases hm'
                  have hql := getD_lt hxs (by simp)
                  have hqd : ((os.set o' .dead).set q .dead).getD q .dead = .dead := by rw [getD_set, if_pos ⟨rfl, by simpa using hql⟩]
                  have hod : ((os.set o' .dead).set q .dead).getD o' .dead = .dead := by
                    rcases set_dead (os.set o' .dead) q o' with h | h
                    · rw [h, getD_set, if_pos ⟨rfl, hol⟩]
                    · exact h
                  obtain ⟨w', m', h1, h2, h3⟩ := app_step (ys := ys) hst hnb t t e i z hu hi hzz hzs hby hrow ((os.set o' .dead).set q .dead) (fun p => (set_dead (os.set o' .dead) q p).elim (fun h => by rw [h]; exact set_dead os o' p) .inr)
                    (xs.length + 1) c1 (fun j => if j = xs.length then mo.blk else if j < xs.length then m.nest j else none) (fun l p lq => (l = some xs.length ∧ p = o' ∧ lq = none) ∨ (l ≠ some xs.length ∧ p = q ∧ lq = l))
                    (fun l l' p lq h h' => by
                      rcases h with ⟨h1, h2, h3⟩ | ⟨h1, h2, h3⟩ <;> rcases h' with ⟨h4, h5, h6⟩ | ⟨h4, h5, h6⟩
                      · exact h1.trans h4.symm
                      · exact absurd (h2.symm.trans h5) hne
                      · exact absurd (h5.symm.trans h2) hne
                      · exact h3.symm.trans h6)
                    (fun b hb => ⟨q, none, ⟨m, hm, by rw [hxs]; exact hb⟩, hqd, .inr ⟨by simp, rfl, rfl⟩⟩)
                    (fun j b hj hb => by
                      by_cases hjl : j = xs.length
                      · subst hjl
                        rw [if_pos rfl] at hb
                        exact ⟨o', none, hown b hb, hod, .inl ⟨rfl, rfl, rfl⟩⟩
                      · rw [if_neg hjl, if_pos (by omega)] at hb
                        exact ⟨q, some j, ⟨m, hm, by rw [hxs]; exact ⟨by omega, hb⟩⟩, hqd, .inr ⟨by simpa using hjl, rfl, rfl⟩⟩)
                    (fun j hj => by rw [if_neg (by omega), if_pos hj]) ⟨by omega, fun _ j hj => by rw [if_neg (by omega), if_neg (by omega)]⟩ (fun j hj => ⟨by omega, hcc.elim (fun h => absurd hj (by rw [h]; exact Nat.not_lt_zero j)) (fun h => h.symm)⟩) (hels xs.length _ (by simp)) hbytes
                  exact ⟨_, w', _, _, hrun _ _ h1, .inl rfl, h2, h3, .hw nb m' (by simp [Cx.with]), with_new⟩
              · cases hv
            · cases hv
              obtain ⟨c', fz, hels⟩ := take_plain hst r2 htake
              have hm1 : c'.μ q = some m := by rw [fz.mu]; exact hm
              obtain ⟨m', hm', hrow⟩ := fz.st.obj q _ hxs (by simp)
              rw [hm1] at hm'; cases hm'
              have hql := getD_lt hxs (by simp)
              have hqd : (os1.set q .dead).getD q .dead = .dead := by rw [getD_set, if_pos ⟨rfl, hql⟩]
              obtain ⟨w', m', h1, h2, h3⟩ := app_step (ys := ys) fz.st (by rw [fz.mu]; exact hnb) t t e i z hu hi hzz hzs hby hrow (os1.set q .dead) (set_dead os1 q) k c0 m.nest (fun l p lq => p = q ∧ lq = l) (fun _ _ _ _ h h' => h.2.symm.trans h'.2)
                (fun b hb => ⟨q, none, ⟨m, hm1, by rw [hxs]; exact hb⟩, hqd, rfl, rfl⟩) (fun j b hj hb => ⟨q, some j, ⟨m, hm1, by rw [hxs]; exact ⟨hj, hb⟩⟩, hqd, rfl, rfl⟩) (fun _ _ => rfl) ⟨by have := hrow.2.2.2.1.1; omega, hrow.2.2.2.1.2⟩ (fun _ _ => ⟨Iff.rfl, rfl⟩)
                (hels.mono fun j q d u h => by rw [if_neg (by have := hrow.2.2.2.1.1; omega)]; exact h) hbytes
              refine ⟨_, w', _, _, hrun _ _ h1, .inl rfl, h2, fz.ext.trans h3, .hw nb m' (by simp [Cx.with]), fun q hq => ?_⟩
              rcases with_new q hq with h | h
              · left; rw [fz.mu] at h; exact h
              · exact .inr h
          · cases hv
        · cases hv
end
end Go.Gn

namespace Go.Gn
open Go
set_option linter.unusedVariables false
set_option linter.unusedSimpArgs false
set_option linter.unusedSectionVars false
def plain : I → Bool
  | .call _ _ => false
  | .callv _ _ => false
  | _ => true
section
variable {P : Program} {c : Cx} {w w0 : World} {nt : Nat} {ts : Ts} {a : Act} {os : List Obj} (hf : Frm c w nt ts a) (hst : Store w0 c os w)
include hf hst
theorem p_build {o : Oper} {t : TypeId} {parts : Array (Nat × Operand)} {ins : I} {call : CallF} {G : Nat → Option CF} {me : CF} {nb : Nat} {v : AV} {os' : List Obj} (ho : o.op = .build t parts) (hc : cI P (.build t parts) = some ins) (hv : evI call G me ins ts nb os = some (v, os')) : Does P o a w w0 c nb v os' := by
  simp only [cI, Option.bind_eq_bind, Option.bind_eq_some_iff] at hc
  obtain ⟨zs, hz, hc⟩ := hc
  split at hc
  · rename_i fs hu
    simp only [Option.bind_eq_some_iff, Option.pure_def, Option.some.injEq] at hc
    obtain ⟨pl, hpl, ps, hps, rfl⟩ := hc
    simp only [evI, Option.map_eq_some_iff] at hv
    obtain ⟨cs, hcs, he⟩ := hv
    cases he
    exact (y_build hf hst hz hu hpl hps ho hcs).does hst nb
  · cases hc
theorem p_mks {o : Oper} {t : TypeId} {len : Nat} {parts : Array (Nat × Operand)} {ins : I} {call : CallF} {G : Nat → Option CF} {me : CF} {nb : Nat} {v : AV} {os' : List Obj} (hnb : c.μ nb = none) (ho : o.op = .buildSlice t len parts) (hc : cI P (.buildSlice t len parts) = some ins) (hv : evI call G me ins ts nb os = some (v, os')) : Does P o a w w0 c nb v os' := by
  simp only [cI, Option.bind_eq_bind, Option.bind_eq_some_iff] at hc
  obtain ⟨e, he, sz, hsz, hc⟩ := hc
  split at hc
  · cases hc
  · rename_i hbig
    simp only [Option.bind_eq_some_iff] at hc
    obtain ⟨zs, hz, hc⟩ := hc
    split at hc
    · cases hc
    · rename_i hzl
      simp only [Option.bind_eq_some_iff, Option.pure_def, Option.some.injEq] at hc
      obtain ⟨ps, hps, rfl⟩ := hc
      simp only [ne_eq, Decidable.not_not] at hzl
      have hu : P.underlying t = some (.slice e) := by
        unfold elem? at he
        split at he
        · rename_i e' hu; cases he; exact hu
        · cases he
      simp only [evI] at hv
      split at hv
      · cases hv
      · rename_i cs hcs
        split at hv
        · cases hv
        · rename_i hcl
          simp only [ne_eq, Decidable.not_not] at hcl
          obtain ⟨h1, h2⟩ := d_mks (P := P) hf hst hnb hu hsz hbig hz hzl hps ho hcs hcl
          split at hv
          · rename_i ds hds
            cases hv
            exact h1 ds hds
          · cases hv
            exact h2
theorem elem_under {t e : TypeId} (he : elem? P t = some e) : P.underlying t = some (.slice e) := by
  unfold elem? at he
  split at he
  · rename_i e' hu; cases he; exact hu
  · cases he
theorem p_mksl {o : Oper} {t : TypeId} {l l' : Operand} {ins : I} {call : CallF} {G : Nat → Option CF} {me : CF} {nb : Nat} {v : AV} {os' : List Obj} (hnb : c.μ nb = none) (ho : o.op = .makeSlice t l l') (hc : cI P (.makeSlice t l l') = some ins) (hv : evI call G me ins ts nb os = some (v, os')) : Does P o a w w0 c nb v os' := by
  simp only [cI, Option.bind_eq_bind, Option.bind_eq_some_iff] at hc
  obtain ⟨e, he, i, hi, zs, hz, hc⟩ := hc
  split at hc
  · cases hc
  · rename_i hzl
    simp only [ne_eq, Decidable.not_not] at hzl
    simp only [Option.bind_eq_some_iff, Option.pure_def, Option.some.injEq] at hc
    obtain ⟨L, hL, L', hL', rfl⟩ := hc
    simp only [evI] at hv
    split at hv
    · rename_i k1 a1 k2 b1 ds h1 h2 h3
      split at hv
      · rename_i hcnd
        cases hv
        obtain ⟨g1, rfl, g3, g4⟩ := hcnd
        exact d_mksl hf hst hnb (elem_under hf hst he) hi hz hzl hL hL' ho h1 h2 h3 g1 g3 g4
      · cases hv
    · cases hv
theorem p_slice {o : Oper} {t : TypeId} {x : Operand} {lo hi mx : Option Operand} {ins : I} {call : CallF} {G : Nat → Option CF} {me : CF} {nb : Nat} {v : AV} {os' : List Obj} (ho : o.op = .slice t x lo hi mx) (hc : cI P (.slice t x lo hi mx) = some ins) (hv : evI call G me ins ts nb os = some (v, os')) : Does P o a w w0 c nb v os' := by
  cases mx with
  | some m => simp [cI] at hc
  | none =>
    simp only [cI] at hc
    split at hc
    · rename_i hu
      simp only [Option.bind_eq_bind, Option.bind_eq_some_iff, Option.pure_def, Option.some.injEq] at hc
      obtain ⟨LO, hlo, HI, hhi, X', hx, rfl⟩ := hc
      simp only [evI] at hv
      split at hv
      · rename_i s l h h1 h2 h3
        simp only [Option.map_eq_some_iff] at hv
        obtain ⟨v', hv', he⟩ := hv
        cases he
        exact (y_sstr hf hu ho hx hlo hhi h1 h2 h3 hv').does hst nb
      · cases hv
    · rename_i e hu
      simp only [Option.bind_eq_bind, Option.bind_eq_some_iff, Option.pure_def, Option.some.injEq] at hc
      obtain ⟨LO, hlo, HI, hhi, sz, hsz, X', hx, rfl⟩ := hc
      simp only [evI] at hv
      split at hv
      · rename_i l h h2 h3
        simp only [Option.map_eq_some_iff] at hv
        obtain ⟨v', hv', he⟩ := hv
        cases he
        exact (y_ssl hf hst hu hsz ho hx hlo hhi h2 h3 hv').does hst nb
      · cases hv
    · cases hc
theorem p_bin {o : Oper} {op : BinOp} {t t' : TypeId} {x y : Operand} {ins : I} {call : CallF} {G : Nat → Option CF} {me : CF} {nb : Nat} {v : AV} {os' : List Obj} (ho : o.op = .binOp op t x y t') (hc : cI P (.binOp op t x y t') = some ins) (hv : evI call G me ins ts nb os = some (v, os')) : Does P o a w w0 c nb v os' := by
  have agg : ∀ {fs : Array Field} {ks : List Nat} {X' Y' : X} (neg : Bool), P.underlying t = some (.struct fs) → P.eqGuardType P.depth t = false → P.stoodInHeld t = false → kindsOf P fs.toList 0 = some ks → (if neg then op = .neq else op = .eql) → cX x = some X' → cX y = some Y' →
      evI call G me (.eqa neg ks X' Y') ts nb os = some (v, os') → Does P o a w w0 c nb v os' := by
    intro fs ks X' Y' neg hu h1 h2 hk hop hx hy hv
    simp only [evI] at hv
    split at hv
    · rename_i xs ys g1 g2
      simp only [Option.map_eq_some_iff] at hv
      obtain ⟨b, hb, he⟩ := hv
      cases he
      cases neg
      · simp at hop; subst hop
        simpa using (y_eqa hf hu h1 h2 hk (.inl rfl) ho hx hy g1 g2 hb).does hst nb
      · simp at hop; subst hop
        simpa using (y_eqa hf hu h1 h2 hk (.inr rfl) ho hx hy g1 g2 hb).does hst nb
    · cases hv
  have bool : ∀ {X' Y' : X} (neg : Bool), P.underlying t = some .bool → (if neg then op = .neq else op = .eql) → cX x = some X' → cX y = some Y' → evI call G me (.beq neg X' Y') ts nb os = some (v, os') → Does P o a w w0 c nb v os' := by
    intro X' Y' neg hu hop hx hy hv
    simp only [evI] at hv
    split at hv
    · rename_i p q g1 g2
      cases hv
      cases neg
      · simp at hop; subst hop
        simpa using (y_beq hf hu (.inl rfl) ho hx hy g1 g2).does hst nb
      · simp at hop; subst hop
        simpa using (y_beq hf hu (.inr rfl) ho hx hy g1 g2).does hst nb
    · cases hv
  have num : ∀ {X' Y' : X}, cX x = some X' → cX y = some Y' → evI call G me (.bin op X' Y') ts nb os = some (v, os') → Does P o a w w0 c nb v os' := by
    intro X' Y' hx hy hv
    simp only [evI, Option.map_eq_some_iff] at hv
    obtain ⟨v', hv', he⟩ := hv
    cases he
    exact (y_bin hf ho hx hy hv').does hst nb
  simp only [cI] at hc
  split at hc
  · rename_i fs hu
    split at hc
    · rename_i hg
      simp only [Bool.and_eq_true, Bool.not_eq_true'] at hg
      simp only [Option.bind_eq_bind, Option.bind_eq_some_iff] at hc
      obtain ⟨ks, hk, hc⟩ := hc
      split at hc
      · simp only [Option.bind_eq_some_iff, Option.pure_def, Option.some.injEq] at hc
        obtain ⟨X', hx, Y', hy, rfl⟩ := hc
        exact agg false hu hg.1 hg.2 hk (by simp) hx hy hv
      · simp only [Option.bind_eq_some_iff, Option.pure_def, Option.some.injEq] at hc
        obtain ⟨X', hx, Y', hy, rfl⟩ := hc
        exact agg true hu hg.1 hg.2 hk (by simp) hx hy hv
      · cases hc
    · cases hc
  · simp only [Option.bind_eq_bind, Option.bind_eq_some_iff, Option.pure_def, Option.some.injEq] at hc
    obtain ⟨X', hx, Y', hy, rfl⟩ := hc
    exact num hx hy hv
  · simp only [Option.bind_eq_bind, Option.bind_eq_some_iff, Option.pure_def, Option.some.injEq] at hc
    obtain ⟨X', hx, Y', hy, rfl⟩ := hc
    exact num hx hy hv
  · rename_i hu
    split at hc
    · simp only [Option.bind_eq_bind, Option.bind_eq_some_iff, Option.pure_def, Option.some.injEq] at hc
      obtain ⟨X', hx, Y', hy, rfl⟩ := hc
      exact bool false hu (by simp) hx hy hv
    · simp only [Option.bind_eq_bind, Option.bind_eq_some_iff, Option.pure_def, Option.some.injEq] at hc
      obtain ⟨X', hx, Y', hy, rfl⟩ := hc
      exact bool true hu (by simp) hx hy hv
    · cases hc
  · cases hc
theorem p_conv {o : Oper} {s d : TypeId} {x : Operand} {ins : I} {call : CallF} {G : Nat → Option CF} {me : CF} {nb : Nat} {v : AV} {os' : List Obj} (ho : o.op = .convert s d x) (hc : cI P (.convert s d x) = some ins) (hv : evI call G me ins ts nb os = some (v, os')) : Does P o a w w0 c nb v os' := by
  simp only [cI] at hc
  split at hc
  · rename_i k1 k hs hd
    simp only [Option.bind_eq_bind, Option.bind_eq_some_iff, Option.pure_def, Option.some.injEq] at hc
    obtain ⟨X', hx, rfl⟩ := hc
    simp only [evI] at hv
    split at hv
    · rename_i k2 n g
      cases hv
      exact (y_conv hf hs hd ho hx g).does hst nb
    · cases hv
  · rename_i hs hd
    simp only [Option.bind_eq_bind, Option.bind_eq_some_iff, Option.pure_def, Option.some.injEq] at hc
    obtain ⟨X', hx, rfl⟩ := hc
    simp only [evI] at hv
    split at hv
    · rename_i q g
      cases hv
      exact (y_cstr hf hs hd ho hx g).does hst nb
    · cases hv
  · rename_i e hs hd
    by_cases he : P.underlying e = some (.int .u8)
    · rw [he] at hc
      simp only [if_true, Option.bind_eq_bind, Option.bind_eq_some_iff, Option.pure_def, Option.some.injEq] at hc
      obtain ⟨X', hx, rfl⟩ := hc
      simp only [evI] at hv
      split at hv
      · rename_i m ys g
        simp only [Option.map_eq_some_iff] at hv
        obtain ⟨l, hl, hh⟩ := hv
        cases hh
        exact (y_b2s hf hst hs he hd ho hx (.inl ⟨_, g⟩) hl).does hst nb
      · rename_i q g
        split at hv
        · rename_i g2
          simp only [Option.map_eq_some_iff] at hv
          obtain ⟨l, hl, hh⟩ := hv
          cases hh
          exact (y_b2s hf hst hs he hd ho hx (.inr (.inl ⟨_, _, _, _, g, g2⟩)) hl).does hst nb
        · rename_i g2
          simp only [Option.map_eq_some_iff] at hv
          obtain ⟨l, hl, hh⟩ := hv
          cases hh
          exact (y_b2s hf hst hs he hd ho hx (.inr (.inr ⟨_, _, g, g2⟩)) hl).does hst nb
        · cases hv
      · cases hv
    · split at hc
      · rename_i hm; exact absurd hm he
      · cases hc
  · cases hc
theorem p_call {o : Oper} {cl : Call} {ins : I} {call : CallF} {G : Nat → Option CF} {me : CF} {nb : Nat} {v : AV} {os' : List Obj} (hnb : c.μ nb = none) (hp : plain ins = true) (ho : o.op = .call cl) (hc : cI P (.call cl) = some ins) (hv : evI call G me ins ts nb os = some (v, os')) : Does P o a w w0 c nb v os' := by
  simp only [cI] at hc
  split at hc
  · simp only [Option.bind_eq_bind, Option.bind_eq_some_iff, Option.pure_def, Option.some.injEq] at hc
    obtain ⟨X', hx, rfl⟩ := hc
    cases hp
  · simp only [Option.bind_eq_bind, Option.bind_eq_some_iff, Option.pure_def, Option.some.injEq] at hc
    obtain ⟨X', hx, Y', hy, rfl⟩ := hc
    cases hp
  · rename_i hcl
    simp only [Option.bind_eq_bind, Option.bind_eq_some_iff] at hc
    obtain ⟨t, ht, hc⟩ := hc
    split at hc
    · rename_i x hu hargs
      simp only [Option.bind_eq_some_iff, Option.pure_def, Option.some.injEq] at hc
      obtain ⟨X', hx, rfl⟩ := hc
      simp only [evI] at hv
      split at hv
      · rename_i s g
        cases hv
        exact (y_lens hf hst hu ho hcl ht hargs hx g).does hst nb
      · cases hv
    · rename_i x e hu hargs
      simp only [Option.bind_eq_some_iff, Option.pure_def, Option.some.injEq] at hc
      obtain ⟨X', hx, rfl⟩ := hc
      simp only [evI, Option.map_eq_some_iff] at hv
      obtain ⟨n, hn, hh⟩ := hv
      cases hh
      exact (y_len hf hst hu ho hcl ht hargs hx hn).does hst nb
    · cases hc
  · rename_i hcl
    simp only [Option.bind_eq_bind, Option.bind_eq_some_iff] at hc
    obtain ⟨t, ht, t1, ht1, e, he, i, hi, hc⟩ := hc
    split at hc
    · rename_i e1 s x hu1 hargs
      simp only [Option.bind_eq_some_iff] at hc
      obtain ⟨zs, hz, hc⟩ := hc
      split at hc
      · cases hc
      · rename_i hzl
        simp only [ne_eq, Decidable.not_not] at hzl
        simp only [Option.bind_eq_some_iff, Option.pure_def, Option.some.injEq] at hc
        obtain ⟨S', hs, X', hx, rfl⟩ := hc
        simp only [evI] at hv
        exact d_app hf hst hnb (elem_under hf hst he) hu1 hi hz hzl ho hcl ht ht1 hargs hs hx hv
    · cases hc
  · simp only [Option.bind_eq_bind, Option.bind_eq_some_iff] at hc
    obtain ⟨t, ht, e, he, hc⟩ := hc
    split at hc
    · simp only [Option.bind_eq_some_iff, Option.pure_def, Option.some.injEq] at hc
      obtain ⟨_, _, _, _, _, _, rfl⟩ := hc
      simp [evI] at hv
    · cases hc
  · rename_i hcl
    simp only [Option.bind_eq_bind, Option.bind_eq_some_iff, Option.pure_def, Option.some.injEq] at hc
    obtain ⟨X', hx, rfl⟩ := hc
    simp only [evI, Option.map_eq_some_iff] at hv
    obtain ⟨v', hv', hh⟩ := hv
    cases hh
    exact (y_minmax hf hst true ho hcl hx hv').does hst nb
  · rename_i hcl
    simp only [Option.bind_eq_bind, Option.bind_eq_some_iff, Option.pure_def, Option.some.injEq] at hc
    obtain ⟨X', hx, rfl⟩ := hc
    simp only [evI, Option.map_eq_some_iff] at hv
    obtain ⟨v', hv', hh⟩ := hv
    cases hh
    exact (y_minmax hf hst false ho hcl hx hv').does hst nb
  · simp only [Option.bind_eq_bind, Option.bind_eq_some_iff] at hc
    obtain ⟨t, ht, e, he, hc⟩ := hc
    split at hc
    · simp only [Option.bind_eq_some_iff, Option.pure_def, Option.some.injEq] at hc
      obtain ⟨_, _, _, _, _, _, rfl⟩ := hc
      simp [evI] at hv
    · cases hc
  · cases hc
theorem plain_sound {o : Oper} {ins : I} {call : CallF} {G : Nat → Option CF} {me : CF} {nb : Nat} {v : AV} {os' : List Obj} (hnb : c.μ nb = none) (hc : cI P o.op = some ins) (hp : ∀ cl, o.op = .call cl → plain ins = true) (hv : evI call G me ins ts nb os = some (v, os')) : Does P o a w w0 c nb v os' := by
  cases hop : o.op <;> rw [hop] at hc
  case move x =>
    simp only [cI, Option.bind_eq_bind, Option.bind_eq_some_iff, Option.pure_def, Option.some.injEq] at hc
    obtain ⟨X', hx, rfl⟩ := hc
    simp only [evI, AV.force_eq] at hv
    cases hv
    exact (y_mv hf (.inl hop) hx).does hst nb
  case assign x =>
    simp only [cI, Option.bind_eq_bind, Option.bind_eq_some_iff, Option.pure_def, Option.some.injEq] at hc
    obtain ⟨X', hx, rfl⟩ := hc
    simp only [evI, AV.force_eq] at hv
    cases hv
    exact (y_mv hf (.inr hop) hx).does hst nb
  case pick x y z =>
    simp only [cI, Option.bind_eq_bind, Option.bind_eq_some_iff, Option.pure_def, Option.some.injEq] at hc
    obtain ⟨X', hx, Y', hy, Z', hz, rfl⟩ := hc
    simp only [evI, AV.force_eq] at hv
    split at hv
    · rename_i g; cases hv; exact (y_pick hf hop hx hy hz g).does hst nb
    · rename_i g; cases hv; exact (y_pick hf hop hx hy hz g).does hst nb
    · cases hv
  case alloc e =>
    simp only [cI, Option.bind_eq_bind, Option.bind_eq_some_iff, Option.pure_def, Option.some.injEq] at hc
    obtain ⟨zs, hz, rfl⟩ := hc
    simp only [evI] at hv
    cases hv
    exact d_alloc hf hst hnb hz hop
  case box e x =>
    simp only [cI, Option.bind_eq_bind, Option.bind_eq_some_iff, Option.pure_def, Option.some.injEq] at hc
    obtain ⟨X', hx, rfl⟩ := hc
    simp only [evI, AV.force_eq] at hv
    split at hv
    · rename_i g; cases hv; exact d_box hf hst hnb hx g hop
    · cases hv
  case build t parts => exact p_build hf hst hop hc hv
  case buildSlice t len parts => exact p_mks hf hst hnb hop hc hv
  case makeSlice t l l' => exact p_mksl hf hst hnb hop hc hv
  case load t x =>
    simp only [cI, Option.bind_eq_bind, Option.bind_eq_some_iff, Option.pure_def, Option.some.injEq] at hc
    obtain ⟨n, hn, u, hu, X', hx, rfl⟩ := hc
    simp only [evI, Option.map_eq_some_iff] at hv
    obtain ⟨v', hv', he⟩ := hv
    cases he
    exact (y_load hf hst hu hn hop hx hv').does hst nb
  case store t x y =>
    simp only [cI, Option.bind_eq_bind, Option.bind_eq_some_iff, Option.pure_def, Option.some.injEq] at hc
    obtain ⟨n, hn, X', hx, Y', hy, rfl⟩ := hc
    simp only [evI, Option.map_eq_some_iff] at hv
    obtain ⟨v', hv', he⟩ := hv
    cases he
    exact d_store hf hst hn hop hx hy hv'
  case nilCheck x =>
    simp only [cI, Option.bind_eq_bind, Option.bind_eq_some_iff, Option.pure_def, Option.some.injEq] at hc
    obtain ⟨X', hx, rfl⟩ := hc
    simp only [evI] at hv
    split at hv
    · rename_i g; cases hv; exact (y_nilc hf hop hx g (.inl ⟨_, _, rfl⟩)).does hst nb
    · rename_i g; cases hv; exact (y_nilc hf hop hx g (.inr (.inl ⟨_, _, _, rfl⟩))).does hst nb
    · rename_i g; cases hv; exact (y_nilc hf hop hx g (.inr (.inr (.inl ⟨_, _, _, rfl⟩)))).does hst nb
    · rename_i g; cases hv; exact (y_nilc hf hop hx g (.inr (.inr (.inr ⟨_, _, _, rfl⟩)))).does hst nb
    · cases hv
  case binOp op t x y t' => exact p_bin hf hst hop hc hv
  case unOp op t x =>
    cases op
    case not =>
      simp only [cI, Option.bind_eq_bind, Option.bind_eq_some_iff, Option.pure_def, Option.some.injEq] at hc
      obtain ⟨X', hx, rfl⟩ := hc
      simp only [evI] at hv
      split at hv
      · rename_i g; cases hv; exact (y_not hf hop hx g).does hst nb
      · cases hv
    case neg =>
      simp only [cI, Option.bind_eq_bind, Option.bind_eq_some_iff, Option.pure_def, Option.some.injEq] at hc
      obtain ⟨X', hx, rfl⟩ := hc
      simp only [evI] at hv
      split at hv
      · rename_i g; cases hv; exact (y_neg hf hop hx g).does hst nb
      · cases hv
    all_goals (simp only [cI] at hc; cases hc)
  case convert s d x => exact p_conv hf hst hop hc hv
  case makeFunc fn first caps =>
    cases fn
    case func f =>
      simp only [cI] at hc
      split at hc
      · rename_i h0
        simp only [cXs, Option.bind_eq_bind, Option.bind_eq_some_iff, Option.pure_def, Option.some.injEq] at hc
        obtain ⟨cs, hcs, rfl⟩ := hc
        simp only [evI, forceL_eq] at hv
        cases hv
        exact (y_mkfn hf h0 hop hcs).does hst nb
      · cases hc
    all_goals (simp only [cI] at hc; cases hc)
  case slice t x lo hi mx => exact p_slice hf hst hop hc hv
  case fieldAddr s x j =>
    simp only [cI] at hc
    split at hc
    · rename_i fs hu
      simp only [Option.bind_eq_bind, Option.bind_eq_some_iff] at hc
      obtain ⟨f, hf', n, hn, hc⟩ := hc
      split at hc
      · cases hc
      · rename_i h0
        simp only [Option.bind_eq_some_iff, Option.pure_def, Option.some.injEq] at hc
        obtain ⟨X', hx, rfl⟩ := hc
        simp only [evI] at hv
        split at hv
        · rename_i g; cases hv; exact (y_fadr hf hu hf' hn h0 hop hx g (.inl ⟨_, _, rfl, rfl⟩)).does hst nb
        · rename_i g; cases hv; exact (y_fadr hf hu hf' hn h0 hop hx g (.inr (.inl ⟨_, _, _, rfl, rfl⟩))).does hst nb
        · rename_i g; cases hv; exact (y_fadr hf hu hf' hn h0 hop hx g (.inr (.inr ⟨_, _, _, rfl, rfl⟩))).does hst nb
        · cases hv
    · cases hc
  case indexAddr t x i =>
    simp only [cI, Option.bind_eq_bind, Option.bind_eq_some_iff, Option.pure_def, Option.some.injEq] at hc
    obtain ⟨e, he, sz, hsz, X', hx, I', hi, rfl⟩ := hc
    simp only [evI] at hv
    split at hv
    · rename_i g
      simp only [Option.map_eq_some_iff] at hv
      obtain ⟨v', hv', hh⟩ := hv
      cases hh
      exact (y_iadr hf hst (elem_under hf hst he) hsz hop hx hi g hv').does hst nb
    · cases hv
  case index t x i =>
    simp only [cI] at hc
    split at hc
    · rename_i hu
      simp only [Option.bind_eq_bind, Option.bind_eq_some_iff, Option.pure_def, Option.some.injEq] at hc
      obtain ⟨X', hx, I', hi, rfl⟩ := hc
      simp only [evI] at hv
      split at hv
      · rename_i g1 g2
        split at hv
        · rename_i hb
          cases hv
          exact (y_idx hf hu hop hx hi g1 g2 hb).does hst nb
        · cases hv
      · cases hv
    · cases hc
  case extract x i =>
    simp only [cI, Option.bind_eq_bind, Option.bind_eq_some_iff, Option.pure_def, Option.some.injEq] at hc
    obtain ⟨X', hx, rfl⟩ := hc
    simp only [evI] at hv
    split at hv
    · rename_i g
      simp only [Option.map_eq_some_iff] at hv
      obtain ⟨v', hv', hh⟩ := hv
      cases hh
      exact (y_ext hf hop hx g hv').does hst nb
    · cases hv
  case call cl => exact p_call hf hst hnb (hp cl hop) hop hc hv
  all_goals (simp only [cI] at hc; cases hc)
end
end Go.Gn

