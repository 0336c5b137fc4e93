/- Part 7 of a proof: an evaluator of the program, proved sound, and what it answers. -/
import Derived.Test.YtkgpnfeabojhcaaGreatA6
set_option linter.all false
namespace Go.Gn
open Go
def lits : List Nat := [0, 1, 2, 3, 4, 5, 6, 7, 8, 9, 10, 11, 12, 13, 14, 15, 16, 17, 18, 19, 20, 21, 22, 23, 24, 25, 26, 27, 28, 29, 30, 31, 32, 33, 34, 35, 36, 37, 38, 39, 40]
def forceN {α : Type} (n : Nat) (f : Nat → α) : List Nat → α
 | [] => f n
 | c :: l => match Nat.beq n c with
  | true => f c
  | false => forceN n f l
theorem forceN_eq {α : Type} (n : Nat) (f : Nat → α) (l : List Nat) : forceN n f l = f n := by
 induction l with
 | nil => rfl
 | cons c l ih =>
  unfold forceN
  split
  ·rename_i h; rw [Nat.eq_of_beq_eq_true h]
  ·exact ih
mutual
def AV.deep {α : Type} : AV → (AV → α) → α
 | .fn g caps, f => AV.deepL caps fun caps => f (.fn g caps)
 | .agg cs, f => AV.deepL cs fun cs => f (.agg cs)
 | .tup vs, f => AV.deepL vs fun vs => f (.tup vs)
 | .int k n, f => f (.int k n)
 | .bool b, f => f (.bool b)
 | .str s, f => f (.str s)
 | .sl m xs, f => f (.sl m xs)
 | .nils, f => f .nils
 | .ep m cs off, f => f (.ep m cs off)
 | .ptr o off, f => f (.ptr o off)
 | .rp o j c, f => f (.rp o j c)
 | .nilp, f => f .nilp
 | .hw o, f => f (.hw o)
 | .hs o lo len, f => f (.hs o lo len)
 | .sub o j len, f => f (.sub o j len)
 | .subp o j i, f => f (.subp o j i)
 | .un, f => f .un
 | .top, f => f .top
def AV.deepL {α : Type} : List AV → (List AV → α) → α
 | [], f => f []
 | v :: vs, f => v.deep fun v => AV.deepL vs fun vs => f (v :: vs)
end
mutual
theorem AV.deep_eq {α : Type} : ∀ (v : AV) (f : AV → α), v.deep f = f v
 | .fn g caps, f => by simp only [AV.deep]; rw [AV.deepL_eq caps]
 | .agg cs, f => by simp only [AV.deep]; rw [AV.deepL_eq cs]
 | .tup vs, f => by simp only [AV.deep]; rw [AV.deepL_eq vs]
 | .int _ _, f | .bool _, f | .str _, f | .sl _ _, f | .nils, f | .ep _ _ _, f | .ptr _ _, f | .rp _ _ _, f | .nilp, f | .hw _, f | .hs _ _ _, f | .sub _ _ _, f | .subp _ _ _, f | .un, f | .top, f => by simp only [AV.deep]
theorem AV.deepL_eq {α : Type} : ∀ (vs : List AV) (f : List AV → α), AV.deepL vs f = f vs
 | [], f => by simp only [AV.deepL]
 | v :: vs, f => by simp only [AV.deepL]; rw [AV.deep_eq v, AV.deepL_eq vs]
end
def Obj.force {α : Type} (x : Obj) (f : Obj → α) : α := match x with
 | .box cs => AV.deepL cs fun cs => f (.box cs)
 | .row sz k c0 xs => f (.row sz k c0 xs)
 | .frz sz xs => f (.frz sz xs)
 | .dead => f .dead
theorem Obj.force_eq {α : Type} (x : Obj) (f : Obj → α) : x.force f = f x := by cases x <;> simp [Obj.force, AV.deepL_eq]
def forceOs {α : Type} : List Obj → (List Obj → α) → α
 | [], f => f []
 | x :: xs, f => x.force fun x => forceOs xs fun xs => f (x :: xs)
theorem forceOs_eq {α : Type} (l : List Obj) (f : List Obj → α) : forceOs l f = f l := by
 induction l generalizing f with
 | nil => rfl
 | cons v vs ih => simp [forceOs, Obj.force_eq, ih]
def forceTs {α : Type} : Ts → (Ts → α) → α
 | [], f => f []
 | (t, v) :: ts, f => v.deep fun v => forceTs ts fun ts => f ((t, v) :: ts)
theorem forceTs_eq {α : Type} (l : Ts) (f : Ts → α) : forceTs l f = f l := by
 induction l generalizing f with
 | nil => rfl
 | cons x l ih => obtain ⟨t, v⟩ := x; simp [forceTs, AV.deep_eq, ih]
variable {β : Type}
def liftK (r : Option (AV × List Obj)) (K : AV → List Obj → Option β) : Option β := match r with
 | none => none
 | some (v, os) => v.force fun v => forceOs os fun os => K v os
theorem liftK_eq (r : Option (AV × List Obj)) (K : AV → List Obj → Option β) : liftK r K = r.bind fun p => K p.1 p.2 := by
 cases r with
 | none => rfl
 | some p => simp [liftK, AV.force_eq, forceOs_eq]
def liftV (r : Option AV) (K : AV → Option β) : Option β := match r with
 | none => none
 | some v => v.force K
theorem liftV_eq (r : Option AV) (K : AV → Option β) : liftV r K = r.bind K := by
 cases r with
 | none => rfl
 | some p => simp [liftV, AV.force_eq]
def tst (b : Bool) (t e : Option β) : Option β := match b with
 | true => t
 | false => e
theorem tst_dec (p : Prop) [Decidable p] (t e : Option β) : tst (decide p) t e = if p then t else e := by
 unfold tst
 by_cases h : p <;> simp [h]
def elK (xs : List (List D)) (i : Nat) (K : List D → Option β) : Option β := match xs[i]? with
 | none => none
 | some el => K el
theorem elK_eq (xs : List (List D)) (i : Nat) (K : List D → Option β) : elK xs i K = (xs[i]?).bind K := by unfold elK; cases xs[i]? <;> rfl
def natK (i : Int) (K : Nat → Option β) : Option β := match i with
 | .ofNat n => K n
 | .negSucc _ => none
theorem natK_eq (i : Int) (K : Nat → Option β) : natK i K = if i < 0 then none else K i.toNat := by
 cases i with
 | ofNat n => simp [natK, show ¬ ((n : Int) < 0) by omega]
 | negSucc n => simp [natK, Int.negSucc_lt_zero]
def iadrK (sz : Nat) (x : AV) (i : Int) (os : List Obj) (K : AV → Option β) : Option β :=
 natK i fun n => match x with
 | .sl m xs => elK xs n fun el => tst (Nat.beq el.length sz) (K (.ep m el 0)) none
 | .hw o => match os.getD o .dead with
  | .row s' _ _ xs => tst (decide (n < xs.length)) (tst (Nat.beq s' sz) (K (.rp o n 0)) none) none
  | .frz s' xs => tst (decide (n < xs.length)) (tst (Nat.beq s' sz) (K (.rp o n 0)) none) none
  | _ => none
 | .hs o lo len => tst (decide (n < len)) (match os.getD o .dead with
  | .box _ => tst (Nat.beq lo 0) (K (.ptr o (n * sz))) none
  | .row s' _ _ _ => tst (Nat.beq s' sz) (K (.rp o (lo + n) 0)) none
  | .frz s' _ => tst (Nat.beq s' sz) (K (.rp o (lo + n) 0)) none
  | .dead => none) none
 | .sub o j len => tst (decide (n < len)) (tst (Nat.beq sz 1) (K (.subp o j n)) none) none
 | _ => none
theorem beq_dec (a b : Nat) : Nat.beq a b = decide (a = b) := by
 cases h : Nat.beq a b with
 | true => have := Nat.eq_of_beq_eq_true h; simp [this]
 | false =>
  have : a ≠ b := fun e => by rw [e, Nat.beq_refl] at h; cases h
  simp [this]
theorem bind_ite {α γ : Type} (p : Prop) [Decidable p] (a b : Option α) (K : α → Option γ) : (if p then a else b).bind K = if p then a.bind K else b.bind K := by split <;> rfl
theorem ite_none (p q : Prop) [Decidable p] [Decidable q] (a : Option β) : (if p then (if q then a else none) else none) = if p ∧ q then a else none := by
 by_cases hp : p <;> by_cases hq : q <;> simp [hp, hq]
theorem iadrK_eq (sz : Nat) (x : AV) (i : Int) (os : List Obj) (K : AV → Option β) : iadrK sz x i os K = (iadrAV sz x i os).bind K := by
 unfold iadrK iadrAV
 rw [natK_eq]
 by_cases hi : i < 0
 ·simp [hi]
 ·simp only [hi, if_false]
  cases x with
  | sl m xs =>
   simp only [elK_eq, beq_dec, tst_dec]
   cases xs[i.toNat]? with
   | none => rfl
   | some el => simp only [Option.bind_some, bind_ite, Option.bind_none]
  | hw o =>
   simp only [beq_dec, tst_dec, ite_none]
   cases os.getD o .dead <;> simp only [bind_ite, Option.bind_none, Option.bind_some]
  | hs o lo len =>
   simp only [beq_dec, tst_dec]
   cases os.getD o .dead <;> simp only [bind_ite, Option.bind_none, Option.bind_some]
  | sub o j len => simp only [beq_dec, tst_dec, ite_none, bind_ite, Option.bind_none, Option.bind_some]
  | _ => rfl
theorem bind_none' {α γ : Type} (K : α → Option γ) : (none : Option α).bind K = none := rfl
theorem bind_some' {α γ : Type} (a : α) (K : α → Option γ) : (some a).bind K = K a := rfl
def goK (lo hi : Option Int) (n : Nat) (K : Nat → Nat → Option β) : Option β :=
 natK (lo.getD 0) fun a => natK (hi.getD n) fun b => tst (decide (a ≤ b)) (tst (decide (b ≤ n)) (K a b) none) none
theorem goK_eq (lo hi : Option Int) (n : Nat) (K : Nat → Nat → Option β) : goK lo hi n K = if 0 ≤ lo.getD 0 ∧ lo.getD 0 ≤ hi.getD n ∧ hi.getD n ≤ n then K (lo.getD 0).toNat (hi.getD n).toNat else none := by
 unfold goK
 generalize lo.getD 0 = l
 generalize hi.getD (n : Int) = h
 simp only [natK_eq, tst_dec, ite_none]
 by_cases h1 : l < 0
 ·rw [if_pos h1, if_neg (by omega)]
 ·rw [if_neg h1]
  by_cases h2 : h < 0
  ·rw [if_pos h2, if_neg (by omega)]
  ·rw [if_neg h2]
   by_cases h3 : l.toNat ≤ h.toNat ∧ h.toNat ≤ n
   ·rw [if_pos h3, if_pos (by omega)]
   ·rw [if_neg h3, if_neg (by omega)]
def sslK (sz : Nat) (x : AV) (lo hi : Option Int) (os : List Obj) (K : AV → Option β) : Option β := match x with
 | .sl m xs => match lo with
  | none => goK none hi xs.length fun a b => K (.sl m (view xs a (b - a)))
  | some l => tst (xs.all fun el => Nat.beq el.length sz) (goK (some l) hi xs.length fun a b => K (.sl m (view xs a (b - a)))) none
 | .nils => goK lo hi 0 fun _ _ => K .nils
 | .hw o => match os.getD o .dead with
  | .row s' _ _ xs => tst (Nat.beq s' sz) (goK lo hi xs.length fun a b => K (.hs o a (b - a))) none
  | .frz s' xs => tst (Nat.beq s' sz) (goK lo hi xs.length fun a b => K (.hs o a (b - a))) none
  | _ => none
 | .hs o a0 n0 => match os.getD o .dead with
  | .row s' _ _ xs => tst (Nat.beq s' sz) (goK lo hi n0 fun a b => K (.hs o (a0 + a) (b - a))) none
  | .frz s' xs => tst (Nat.beq s' sz) (goK lo hi n0 fun a b => K (.hs o (a0 + a) (b - a))) none
  | _ => none
 | _ => none
theorem sslK_eq (sz : Nat) (x : AV) (lo hi : Option Int) (os : List Obj) (K : AV → Option β) : sslK sz x lo hi os K = (sslAV sz x lo hi os).bind K := by
 unfold sslK sslAV
 cases x with
 | sl m xs =>
  cases lo with
  | none => simp only [goK_eq, Option.isNone_none, Bool.true_or, if_true, bind_ite, bind_none', bind_some']
  | some l =>
   simp only [goK_eq, Option.isNone_some, Bool.false_or]
   cases xs.all fun el => Nat.beq el.length sz
   ·rfl
   ·simp only [tst, if_true, bind_ite, bind_none', bind_some']
 | nils => simp only [goK_eq, bind_ite, bind_none', bind_some']
 | hw o =>
  simp only [beq_dec, tst_dec, goK_eq]
  cases os.getD o .dead <;> simp only [bind_ite, bind_none', bind_some']
 | hs o a n =>
  simp only [beq_dec, tst_dec, goK_eq]
  cases os.getD o .dead <;> simp only [bind_ite, bind_none', bind_some']
 | _ => rfl
def sstrK (s : ByteArray) (lo hi : Option Int) (K : AV → Option β) : Option β := goK lo hi s.size fun a b => K (.str (s.extract a b))
theorem sstrK_eq (s : ByteArray) (lo hi : Option Int) (K : AV → Option β) : sstrK s lo hi K = (sstrAV s lo hi).bind K := by
 unfold sstrK sstrAV
 simp only [goK_eq, bind_ite, bind_none', bind_some']
def gK (k c0 j i : Nat) (d : D) (o : Nat) (K : AV → Option β) : Option β := match d with
 | .sl ys => tst (Nat.blt j k) (tst (Nat.beq i c0) (K (.sub o j ys.length)) (K (.sl .sh ys))) (K (.sl .sh ys))
 | .int k n => K (.int k n)
 | .bool b => K (.bool b)
 | .str s => K (.str s)
 | .top => K .top
theorem blt_dec (a b : Nat) : Nat.blt a b = decide (a < b) := by rw [Bool.eq_iff_iff, Nat.blt_eq]; simp
theorem ble_dec (a b : Nat) : Nat.ble a b = decide (a ≤ b) := by rw [Bool.eq_iff_iff, Nat.ble_eq]; simp
theorem gK_eq (k c0 j i : Nat) (d : D) (o : Nat) (K : AV → Option β) : gK k c0 j i d o K = K (gAV k c0 j i d o) := by
 cases d with
 | sl ys =>
  simp only [gK, gAV, beq_dec, blt_dec, tst_dec]
  by_cases h1 : i = c0 <;> by_cases h2 : j < k <;> simp [h1, h2]
 | _ => rfl
def gLK (k c0 j o : Nat) : Nat → List D → (List AV → Option β) → Option β
 | _, [], K => K []
 | i, d :: ds, K => gK k c0 j i d o fun v => gLK k c0 j o (i + 1) ds fun vs => K (v :: vs)
theorem gLK_eq (k c0 j o : Nat) : ∀ (ds : List D) (c : Nat) (K : List AV → Option β), gLK k c0 j o c ds K = K (ds.mapIdx fun i d => gAV k c0 j (c + i) d o)
 | [], c, K => by simp [gLK]
 | d :: ds, c, K => by
  simp only [gLK, gK_eq, gLK_eq k c0 j o ds, List.mapIdx_cons, Nat.add_zero]
  congr 3
  funext i d
  rw [Nat.add_right_comm, Nat.add_assoc]
def loadK (agg : Bool) (n : Nat) (a : AV) (os : List Obj) (K : AV → Option β) : Option β :=
 match a with
 | .rp o j c => match os.getD o .dead with
  | .row _ k c0 xs => elK xs j fun el => match agg with
   | true => match cut el c n with
    | none => none
    | some l => gLK k c0 j o c l fun l => K (.agg l)
   | false => match el[c]? with
    | none => none
    | some d => gK k c0 j c d o K
  | .frz _ xs => elK xs j fun el => match agg with
   | true => match cut el c n with
    | none => none
    | some l => forceL (l.map (D.av .sh)) fun l => K (.agg l)
   | false => match el[c]? with
    | none => none
    | some d => (d.av .sh).force K
  | _ => none
 | .subp o j i => match os.getD o .dead with
  | .row _ k c0 xs => elK xs j fun el => match el[c0]? with
   | some (.sl ys) => match agg with
    | true => none
    | false => tst (Nat.blt j k) (match ys[i]? with
     | some [d] => (d.av .sh).force K
     | _ => none) none
   | _ => none
  | _ => none
 | .ep m cs off => match agg with
  | true => match cut cs off n with
   | none => none
   | some l => forceL (l.map (D.av m)) fun l => K (.agg l)
  | false => match cs[off]? with
   | none => none
   | some d => (d.av m).force K
 | .ptr o off => match os.getD o .dead with
  | .box cs => match agg with
   | true => match cut cs off n with
    | none => none
    | some l => forceL l fun l => K (.agg l)
   | false => match cs[off]? with
    | none => none
    | some v => v.force K
  | _ => none
 | _ => none
theorem loadK_eq (agg : Bool) (n : Nat) (a : AV) (os : List Obj) (K : AV → Option β) : loadK agg n a os K = (loadAV agg n a os).bind K := by
 unfold loadK loadAV
 cases a with
 | rp o j c =>
  simp only
  cases os.getD o .dead with
  | row s k c0 xs =>
   simp only [elK_eq]
   cases xs[j]? with
   | none => rfl
   | some el =>
    simp only [bind_some', gLK_eq, gK_eq]
    cases agg with
    | true => simp only [if_true]; cases cut el c n <;> rfl
    | false => simp only [Bool.false_eq_true, if_false]; cases el[c]? <;> rfl
  | frz s xs =>
   simp only [elK_eq]
   cases xs[j]? with
   | none => rfl
   | some el =>
    simp only [bind_some', forceL_eq, AV.force_eq]
    cases agg with
    | true => simp only [if_true]; cases cut el c n <;> rfl
    | false => simp only [Bool.false_eq_true, if_false]; cases el[c]? <;> rfl
  | box cs => rfl
  | dead => rfl
 | subp o j i =>
  simp only
  cases os.getD o .dead with
  | row s k c0 xs =>
   simp only [elK_eq]
   cases xs[j]? with
   | none => rfl
   | some el =>
    simp only [bind_some', AV.force_eq, blt_dec, tst_dec]
    cases el[c0]? with
    | none => rfl
    | some d =>
     cases d <;> simp only [bind_none']
     rename_i ys
     cases agg with
     | true => simp
     | false =>
      simp only [Bool.false_eq_true, false_or]
      by_cases h : j < k
      ·rw [if_pos h, if_neg (by omega)]
       cases ys[i]? with
       | none => rfl
       | some l => rcases l with _ | ⟨d, _ | ⟨d2, l⟩⟩ <;> rfl
      ·rw [if_neg h, if_pos (by omega)]; rfl
  | _ => rfl
 | ep m cs off =>
  simp only [forceL_eq, AV.force_eq]
  cases agg with
  | true => simp only [if_true]; cases cut cs off n <;> rfl
  | false => simp only [Bool.false_eq_true, if_false]; cases cs[off]? <;> rfl
 | ptr o off =>
  simp only [forceL_eq, AV.force_eq]
  cases os.getD o .dead with
  | box cs =>
   cases agg with
   | true => simp only [if_true]; cases cut cs off n <;> rfl
   | false => simp only [Bool.false_eq_true, if_false]; cases cs[off]? <;> rfl
  | _ => rfl
 | _ => rfl
def storeFz (n : Nat) (o j c : Nat) (el : List D) (v : AV) (os : List Obj) (K : List Obj → Option β) : Option β := match freezeL v.cells os with
 | none => none
 | some (ds, os') => match os'.getD o .dead with
  | .row sz k c0 xs => forceOs (os'.set o (.row sz k c0 (xs.set j (splice el c ds)))) K
  | _ => none
def storeOwn (o sz k c0 j : Nat) (xs : List (List D)) (el : List D) (v : AV) (os : List Obj) (K : List Obj → Option β) : Option β := match v with
 | .hw o' => match Nat.beq o' o with
  | true => none
  | false => match os.getD o' .dead with
   | .row 1 0 _ ys => forceOs ((os.set o' .dead).set o (.row sz (k + 1) c0 (xs.set j (el.set c0 (.sl ys))))) K
   | _ => none
 | _ => none
def storeWideK (o j k c0 c sz p o' : Nat) (el : List D) (xs : List (List D)) (v : AV) (os : List Obj) (K : List Obj → Option β) : Option β := match Nat.beq o' o with
 | true => none
 | false => match Nat.beq c0 (c + p) || Nat.beq k 0 with
  | false => none
  | true => match os.getD o' .dead with
   | .row 1 0 _ ys => match toDs (v.cells.set p (.int .i64 0)) with
    | some ds => forceOs ((os.set o' .dead).set o (.row sz (k + 1) (c + p) (xs.set j (splice el c (ds.set p (.sl ys)))))) K
    | none => none
   | _ => none
theorem storeWideK_eq (o j k c0 c sz p o' : Nat) (el : List D) (xs : List (List D)) (v : AV) (os : List Obj) (K : List Obj → Option β) : storeWideK o j k c0 c sz p o' el xs v os K = (storeWide o j k c0 c sz p o' el xs v os).bind K := by
 unfold storeWideK storeWide
 cases Nat.beq o' o with
 | true => rfl
 | false =>
  simp only
  cases (Nat.beq c0 (c + p) || Nat.beq k 0) with
  | false => rfl
  | true =>
   simp only
   generalize os.getD o' .dead = y
   cases y with
   | row s2 k2 c2 ys =>
    rcases s2 with _ | _ | s2 <;> rcases k2 with _ | k2 <;> first | rfl | (simp only; cases toDs (v.cells.set p (.int .i64 0)) <;> simp only [forceOs_eq] <;> rfl)
   | _ => rfl
def storeFw (own : Bool) (sz k c0 : Nat) (xs : List (List D)) (n : Nat) (o j c : Nat) (el : List D) (v : AV) (os : List Obj) (K : List Obj → Option β) : Option β := match wideIx own n j k c0 sz v with
 | some (p, o') => storeWideK o j k c0 c sz p o' el xs v os K
 | none => storeFz n o j c el v os K
def storeK (own : Bool) (n : Nat) (a v : AV) (os : List Obj) (K : List Obj → Option β) : Option β :=
 match Nat.beq v.cells.length n with
 | false => none
 | true => match a with
 | .ptr o off => match os.getD o .dead with
  | .box cs => tst (Nat.ble (off + n) cs.length) (tst (v.cells.all AV.one) (forceOs (os.set o (.box (splice cs off v.cells))) K) none) none
  | _ => none
 | .rp o j c => match os.getD o .dead with
  | .row sz k c0 xs => elK xs j fun el => tst (Nat.ble (c + n) el.length) (
    match Nat.ble c c0 && Nat.blt c0 (c + n) with
    | false => storeFw own sz k c0 xs n o j c el v os K
    | true => tst (Nat.blt j k) none (match own && Nat.beq c c0 && Nat.beq n 1 && v.isHw with
     | true => tst (Nat.beq j k) (storeOwn o sz k c0 j xs el v os K) (storeFw own sz k c0 xs n o j c el v os K)
     | false => storeFw own sz k c0 xs n o j c el v os K)) none
  | _ => none
 | .subp o j i => match os.getD o .dead with
  | .row sz k c0 xs => elK xs j fun el => match el[c0]? with
   | some (.sl ys) => match v.toD with
    | some d => tst (decide (i < ys.length)) (tst (Nat.blt j k) (forceOs (os.set o (.row sz k c0 (xs.set j (el.set c0 (.sl (ys.set i [d.scrub])))))) K) none) none
    | none => none
   | _ => none
  | _ => none
 | _ => none
theorem storeK_eq (own : Bool) (n : Nat) (a v : AV) (os : List Obj) (K : List Obj → Option β) : storeK own n a v os K = (storeAV own n a v os).bind K := by
 unfold storeK storeAV
 rw [beq_dec]
 by_cases hn : v.cells.length = n
 ·simp only [hn, decide_true, ne_eq, not_true_eq_false, if_false]
  cases a with
  | ptr o off =>
   simp only
   cases os.getD o .dead with
   | box cs =>
    simp only [ble_dec, tst_dec, forceOs_eq]
    have : ∀ (b : Bool) (t : Option β), tst b t none = if b = true then t else none := fun b t => by cases b <;> rfl
    rw [this, ite_none, bind_ite]; rfl
   | _ => rfl
  | rp o j c =>
   simp only
   cases os.getD o .dead with
   | row sz k c0 xs =>
    simp only [elK_eq]
    cases xs[j]? with
    | none => rfl
    | some el =>
     simp only [bind_some', ble_dec, tst_dec, blt_dec, beq_dec]
     by_cases hle : c + n ≤ el.length
     ·rw [if_pos hle, if_pos hle]
      have hfz : storeFw own sz k c0 xs n o j c el v os K = (match wideIx own n j k c0 sz v with
       | some (p, o') => storeWide o j k c0 c sz p o' el xs v os
       | none => match freezeL v.cells os with
        | none => none
        | some (ds, os') => match os'.getD o .dead with
         | .row sz k c0 xs => some (os'.set o (.row sz k c0 (xs.set j (splice el c ds))))
         | _ => none).bind K := by
       unfold storeFw
       cases wideIx own n j k c0 sz v with
       | some po => exact storeWideK_eq ..
       | none =>
        simp only
        unfold storeFz
        cases freezeL v.cells os with
        | none => rfl
        | some p =>
         simp only
         cases p.2.getD o .dead <;> simp only [forceOs_eq] <;> rfl
      by_cases hc : c ≤ c0 ∧ c0 < c + n
      ·have e1 : (decide (c ≤ c0) && decide (c0 < c + n)) = true := by simp [hc]
       rw [e1]
       simp only
       by_cases hj : j < k
       ·rw [if_pos hj, if_pos (show j < k ∧ c ≤ c0 ∧ c0 < c + n from ⟨hj, hc⟩)]; rfl
       ·rw [if_neg hj, if_neg (show ¬ (j < k ∧ c ≤ c0 ∧ c0 < c + n) from fun h => hj h.1)]
        by_cases ho : own = true ∧ j = k ∧ c = c0 ∧ n = 1 ∧ v.isHw = true
        ·obtain ⟨h1, h2, h3, h4, h5⟩ := ho
         have e2 : (own && decide (c = c0) && decide (n = 1) && v.isHw) = true := by simp [h1, h3, h4, h5]
         rw [e2, if_pos (show own = true ∧ j = k ∧ c = c0 ∧ n = 1 ∧ v.isHw = true from ⟨h1, h2, h3, h4, h5⟩)]
         simp only
         rw [if_pos h2]
         unfold storeOwn
         cases v <;> simp only [bind_none']
         rename_i o'
         rw [beq_dec]
         by_cases h5 : o' = o
         ·rw [if_pos h5]; simp [h5]
         ·rw [if_neg h5]
          simp only [h5, decide_false]
          try simp only [if_false]
          generalize os.getD o' .dead = y
          cases y with
          | row s2 k2 c2 ys => rcases s2 with _ | _ | s2 <;> rcases k2 with _ | k2 <;> first | rfl | (simp only [forceOs_eq]; rfl)
          | _ => rfl
        ·rw [if_neg ho]
         cases e2 : (own && decide (c = c0) && decide (n = 1) && v.isHw) with
         | true =>
          simp only [Bool.and_eq_true, decide_eq_true_eq] at e2
          simp only
          rw [if_neg (show ¬ (j = k) from fun h => ho ⟨e2.1.1.1, h, e2.1.1.2, e2.1.2, e2.2⟩)]
          exact hfz
         | false => exact hfz
      ·have e1 : (decide (c ≤ c0) && decide (c0 < c + n)) = false := by
        cases h : (decide (c ≤ c0) && decide (c0 < c + n)) with
        | false => rfl
        | true => simp only [Bool.and_eq_true, decide_eq_true_eq] at h; exact absurd h hc
       rw [e1]
       simp only
       rw [if_neg (show ¬ (j < k ∧ c ≤ c0 ∧ c0 < c + n) from fun h => hc h.2), if_neg (show ¬ (own = true ∧ j = k ∧ c = c0 ∧ n = 1 ∧ v.isHw = true) by rintro ⟨_, _, h1, h2, _⟩; omega)]
       exact hfz
     ·rw [if_neg hle, if_neg hle]; rfl
   | _ => rfl
  | subp o j i =>
   simp only
   cases os.getD o .dead with
   | row sz k c0 xs =>
    simp only [elK_eq]
    cases xs[j]? with
    | none => rfl
    | some el =>
     simp only [bind_some']
     cases el[c0]? with
     | none => rfl
     | some d =>
      cases d <;> simp only [bind_none']
      cases v.toD with
      | none => rfl
      | some d => simp only [tst_dec, blt_dec, ite_none, bind_ite, forceOs_eq]; rfl
   | _ => rfl
  | _ => rfl
 ·simp only [hn, decide_false, ne_eq, not_false_eq_true, if_true]; rfl
def takeK (own : Bool) (sz : Nat) (x : AV) (os : List Obj) (K : List (List D) → Option (Nat × Nat) → List Obj → Option β) : Option β :=
 match x with
 | .nils => K [] none os
 | .sl .sh ys => tst (szOk sz ys) (K ys none os) none
 | .sl .br ys => tst (szOk sz ys) (K (ys.map (·.map D.scrub)) none os) none
 | .hw o => match os.getD o .dead with
  | .row s' 0 _ ys => tst (Nat.beq s' sz) (K ys none os) none
  | .row s' (_ + 1) _ ys => tst (Nat.beq s' sz) (K (ys.map (·.map D.scrub)) none os) none
  | .frz s' ys => tst (Nat.beq s' sz) (K ys none os) none
  | _ => none
 | .hs o lo len => match os.getD o .dead with
  | .row s' 0 _ ys => tst (Nat.beq s' sz) (tst (decide (lo + len ≤ ys.length)) (K (view ys lo len) none os) none) none
  | .row s' (_ + 1) _ ys => tst (Nat.beq s' sz) (tst (decide (lo + len ≤ ys.length)) (K ((view ys lo len).map (·.map D.scrub)) none os) none) none
  | .frz s' ys => tst (Nat.beq s' sz) (tst (decide (lo + len ≤ ys.length)) (K (view ys lo len) none os) none) none
  | .box cs => match takeEls own sz (.hs o lo len) os with
   | none => none
   | some (ys, c, os) => K ys c os
  | .dead => none
 | _ => none
theorem takeK_eq (own : Bool) (sz : Nat) (x : AV) (os : List Obj) (K : List (List D) → Option (Nat × Nat) → List Obj → Option β) : takeK own sz x os K = (takeEls own sz x os).bind fun p => K p.1 p.2.1 p.2.2 := by
 have tb : ∀ (b : Bool) (t : Option β), tst b t none = if b = true then t else none := fun b t => by cases b <;> rfl
 cases x with
 | sl m ys => cases m <;> simp only [takeK, takeEls, tb, bind_ite, bind_some', bind_none']
 | hw o =>
  simp only [takeK, takeEls, beq_dec, tst_dec]
  generalize os.getD o .dead = y
  cases y with
  | row s2 k2 c2 ys => cases k2 <;> simp only [bind_ite, bind_some', bind_none']
  | _ => simp only [bind_ite, bind_some', bind_none']
 | hs o lo len =>
  simp only [takeK, beq_dec, tst_dec, ite_none]
  cases hy : os.getD o .dead with
  | row s2 k2 c2 ys => cases k2 <;> simp only [takeEls, hy, bind_ite, bind_some', bind_none']
  | frz s2 ys => simp only [takeEls, hy, bind_ite, bind_some', bind_none']
  | dead => simp only [takeEls, hy, bind_none']
  | box cs => simp only; cases takeEls own sz (.hs o lo len) os <;> rfl
 | _ => rfl
def appK (own : Bool) (sz bytes nb : Nat) (s x : AV) (os : List Obj) (K : AV → List Obj → Option β) : Option β :=
 takeK own sz x os fun ys c? os =>
  match Nat.beq bytes 0 with
  | true => none
  | false => match s with
  | .nils => tst (decide (ys.length * bytes ≤ 140737488355328)) (forceOs (setAt os nb (match c? with | some c0 => .row sz 1 c0.1 ys | none => .row sz 0 0 ys)) fun os => K (.hw nb) os) none
  | .hw o => match os.getD o .dead with
   | .row s' k c0 xs => tst (Nat.beq s' sz) (tst (decide ((xs.length + ys.length) * bytes ≤ 140737488355328))
     (match c? with
     | some c1 => match Nat.beq c1.2 o with
      | true => none
      | false => tst (Nat.beq k xs.length) (tst (Nat.beq xs.length 0 || Nat.beq c0 c1.1) (forceOs (setAt (os.set o .dead) nb (.row sz (xs.length + 1) c1.1 (xs ++ ys))) fun os => K (.hw nb) os) none) none
     | none => forceOs (setAt (os.set o .dead) nb (.row sz k c0 (xs ++ ys))) fun os => K (.hw nb) os) none) none
   | _ => none
  | _ => none
theorem appK_eq (own : Bool) (sz bytes nb : Nat) (s x : AV) (os : List Obj) (K : AV → List Obj → Option β) : appK own sz bytes nb s x os K = (appAV own sz bytes nb s x os).bind fun p => K p.1 p.2 := by
 unfold appK appAV
 rw [takeK_eq]
 cases takeEls own sz x os with
 | none => rfl
 | some p =>
  obtain ⟨ys, c?, os⟩ := p
  simp only [bind_some', beq_dec]
  by_cases hb : bytes = 0
  ·simp [hb]
  ·simp only [hb, decide_false, if_false]
   cases s with
   | nils => simp only [tst_dec, forceOs_eq, bind_ite, bind_some', bind_none']; rfl
   | hw o =>
    simp only
    generalize os.getD o .dead = y
    cases y with
    | row s' k c0 xs =>
     simp only [tst_dec, ite_none, forceOs_eq, bind_ite, bind_none']
     congr 1
     cases c? with
     | none => rfl
     | some c1 =>
      simp only
      by_cases h1 : c1.2 = o
      ·simp [h1]
      ·simp only [h1, decide_false, ne_eq, not_false_eq_true, true_and]
       have e : ∀ (t : Option β), tst (decide (xs.length = 0) || decide (c0 = c1.1)) t none = if xs.length = 0 ∨ c0 = c1.1 then t else none := by
        intro t
        rw [← tst_dec]
        congr 1
        rw [Bool.eq_iff_iff]; simp
       rw [e, ite_none, bind_ite]
       rfl
    | _ => rfl
   | _ => rfl
def mkslK (sz bytes : Nat) (zs : List AV) (l c : AV) (nb : Nat) (os : List Obj) (K : AV → List Obj → Option β) : Option β := match l with
 | .int _ a => match c with
  | .int _ b => match toDs zs with
   | some ds => natK a fun n => tst (decide (a = b)) (tst (decide (n * bytes ≤ 140737488355328)) (tst (decide (n ≤ 9223372036854775807)) (forceOs (setAt os nb (.row sz 0 0 (List.replicate n ds))) fun os => K (.hw nb) os) none) none) none
   | none => none
  | _ => none
 | _ => none
theorem mul_toNat {a : Int} {b : Nat} (h : 0 ≤ a) : a * (b : Int) = ((a.toNat * b : Nat) : Int) := by
 rw [Int.natCast_mul, Int.toNat_of_nonneg h]
theorem mkslK_eq (call : CallF) (G : Nat → Option CF) (me : CF) (ts : Ts) (sz bytes : Nat) (zs : List AV) (l c : X) (nb : Nat) (os : List Obj) (K : AV → List Obj → Option β) : mkslK sz bytes zs (getX ts l) (getX ts c) nb os K = (evI call G me (.mksl sz bytes zs l c) ts nb os).bind fun p => K p.1 p.2 := by
 simp only [evI, mkslK]
 cases getX ts l <;> try rfl
 rename_i k a
 cases getX ts c <;> try rfl
 rename_i k' b
 cases toDs zs with
 | none => rfl
 | some ds =>
  simp only [natK_eq, tst_dec, ite_none, forceOs_eq, bind_ite, bind_some', bind_none']
  by_cases h : a < 0
  ·rw [if_pos h, if_neg (by omega)]
  ·rw [if_neg h]
   by_cases h2 : a = b ∧ a.toNat * bytes ≤ 140737488355328 ∧ a.toNat ≤ 9223372036854775807
   ·have e := mul_toNat (b := bytes) (show 0 ≤ a by omega)
    rw [if_pos h2, if_pos ⟨by omega, h2.1, by have := h2.2.1; rw [e]; omega, by omega⟩]
   ·rw [if_neg h2, if_neg]
    rintro ⟨g1, g2, g3, g4⟩
    have e := mul_toNat (b := bytes) g1
    rw [e] at g3
    exact h2 ⟨g2, by omega, by omega⟩
def byteAt (s : ByteArray) (i : Nat) : Int := if h : i < s.size then ((s[i]'h).toNat : Int) else 0
def idxK (x i : AV) (K : AV → Option β) : Option β := match x with
 | .str s => match i with
  | .int _ n => natK n fun j => tst (decide (j < s.size)) (K (.int .u8 (byteAt s j))) none
  | _ => none
 | _ => none
theorem idxK_eq (call : CallF) (G : Nat → Option CF) (me : CF) (ts : Ts) (x i : X) (nb : Nat) (os : List Obj) (K : AV → List Obj → Option β) : idxK (getX ts x) (getX ts i) (fun v => K v os) = (evI call G me (.idx x i) ts nb os).bind fun p => K p.1 p.2 := by
 simp only [evI, idxK]
 cases getX ts x <;> try rfl
 rename_i s
 cases getX ts i <;> try rfl
 rename_i k n
 simp only [natK_eq, tst_dec]
 by_cases h : n < 0
 ·rw [if_pos h, dif_neg (by omega)]; rfl
 ·rw [if_neg h]
  by_cases h2 : n.toNat < s.size
  ·rw [if_pos h2, dif_pos ⟨by omega, h2⟩]
   simp only [bind_some', byteAt, dif_pos h2]
  ·rw [if_neg h2, dif_neg (fun hh => h2 hh.2)]; rfl
def binK (op : BinOp) (x y : AV) (K : AV → Option β) : Option β := match op with
 | .add => match x with
  | .str a => match y with
   | .str b => tst (decide (a.size + b.size ≤ 9223372036854775807)) (K (.str (a ++ b))) none
   | _ => none
  | x => liftV (binAV .add x y) K
 | op => liftV (binAV op x y) K
theorem binK_eq (op : BinOp) (x y : AV) (K : AV → Option β) : binK op x y K = (binAV op x y).bind K := by
 unfold binK
 split
 ·split
  ·split
   ·simp only [tst_dec, binAV, binS, bind_ite, bind_some', bind_none']
   ·rename_i hne
    cases y <;> first | rfl | (exact absurd rfl (hne _))
  ·exact liftV_eq _ _
 ·exact liftV_eq _ _
def forceDs {α : Type} : List D → (List D → α) → α
 | [], f => f []
 | d :: l, f => forceDs l fun l => f (d :: l)
theorem forceDs_eq {α : Type} : ∀ (l : List D) (f : List D → α), forceDs l f = f l
 | [], f => rfl
 | d :: l, f => by simp only [forceDs]; rw [forceDs_eq l]
def forceDss {α : Type} : List (List D) → (List (List D) → α) → α
 | [], f => f []
 | x :: l, f => forceDs x fun x => forceDss l fun l => f (x :: l)
theorem forceDss_eq {α : Type} : ∀ (l : List (List D)) (f : List (List D) → α), forceDss l f = f l
 | [], f => rfl
 | x :: l, f => by simp only [forceDss, forceDs_eq]; rw [forceDss_eq l]
def lendDK (os : List Obj) (sel : List Nat) (v : AV) (K : D → Option β) : Option β := match v with
 | .int k n => K (.int k n)
 | .bool b => K (.bool b)
 | .str s => K (.str s)
 | .sl _ xs => K (.sl xs)
 | .nils => K (.sl [])
 | .hw o => match sel.contains o with
  | true => none
  | false => match os.getD o .dead with
   | .row _ _ _ xs => K (.sl xs)
   | .frz _ xs => K (.sl xs)
   | _ => none
 | v => match lendD os sel v with
  | some d => K d
  | none => none
theorem lendDK_eq (os : List Obj) (sel : List Nat) (v : AV) (K : D → Option β) : lendDK os sel v K = (lendD os sel v).bind K := by
 unfold lendDK
 split
 case h_6 o =>
  simp only [lendD]
  cases sel.contains o with
  | true => rfl
  | false =>
   simp only [Bool.false_eq_true, if_false]
   cases os.getD o .dead <;> rfl
 case h_7 => cases lendD os sel _ <;> rfl
 all_goals simp only [lendD, bind_some']
def lendDsK (os : List Obj) (sel : List Nat) : List AV → (List D → Option β) → Option β
 | [], K => K []
 | v :: vs, K => lendDK os sel v fun d => lendDsK os sel vs fun l => K (d :: l)
theorem lendDsK_eq (os : List Obj) (sel : List Nat) : ∀ (vs : List AV) (K : List D → Option β), lendDsK os sel vs K = (lendDs os sel vs).bind K
 | [], K => rfl
 | v :: vs, K => by
  simp only [lendDsK, lendDs, lendDK_eq]
  cases lendD os sel v with
  | none => rfl
  | some d =>
   simp only [bind_some']
   rw [lendDsK_eq]
   cases lendDs os sel vs <;> rfl
def lend1K (os : List Obj) (sel : List Nat) (v : AV) (K : AV → Option β) : Option β := match v with
 | .hs o lo len => match sel.contains o with
  | true => none
  | false => match os.getD o .dead with
   | .row _ _ _ xs => tst (decide (lo + len ≤ xs.length)) (K (.sl .br (view xs lo len))) none
   | .frz _ xs => tst (decide (lo + len ≤ xs.length)) (K (.sl .br (view xs lo len))) none
   | .box cs => forceN cs.length (fun n => tst (Nat.beq lo 0) (tst (Nat.beq (n / len * len) n) (lendDsK os sel cs fun ds => forceN (n / len) (fun sz => forceDss (chunks sz len ds) fun xs => K (.sl .br xs)) lits) none) none) lits
   | .dead => none
 | .ptr o off => match sel.contains o with
  | true => none
  | false => match os.getD o .dead with
   | .box cs => lendDsK os sel cs fun ds => K (.ep .br ds off)
   | _ => none
 | .rp o j c => match sel.contains o with
  | true => none
  | false => match os.getD o .dead with
   | .row _ _ _ xs => elK xs j fun el => K (.ep .br el c)
   | .frz _ xs => elK xs j fun el => K (.ep .br el c)
   | _ => none
 | .sub o j len => match sel.contains o with
  | true => none
  | false => match os.getD o .dead with
   | .row _ k c0 xs => elK xs j fun el => match el[c0]? with
    | some (.sl ys) => tst (decide (ys.length = len)) (tst (decide (j < k)) (K (.sl .br ys)) none) none
    | _ => none
   | _ => none
 | v => liftV (lend os sel v) K
theorem lend1K_eq (os : List Obj) (sel : List Nat) (v : AV) (K : AV → Option β) : lend1K os sel v K = (lend os sel v).bind K := by
 unfold lend1K
 split
 ·rename_i o lo len
  simp only [lend]
  cases sel.contains o with
  | true => rfl
  | false =>
   simp only [Bool.false_eq_true, if_false]
   cases os.getD o .dead with
   | box cs =>
    simp only [forceN_eq, forceDss_eq, lendDsK_eq, beq_dec, tst_dec, ite_none, bind_ite, bind_none']
    congr 1
    cases lendDs os sel cs <;> rfl
   | _ => simp only [tst_dec, bind_ite, bind_some', bind_none']
 ·rename_i o off
  simp only [lend]
  cases sel.contains o with
  | true => rfl
  | false =>
   simp only [Bool.false_eq_true, if_false]
   cases os.getD o .dead with
   | box cs =>
    simp only [lendDsK_eq]
    cases lendDs os sel cs <;> rfl
   | _ => rfl
 ·rename_i o j c
  simp only [lend]
  cases sel.contains o with
  | true => rfl
  | false =>
   simp only [Bool.false_eq_true, if_false, elK_eq]
   cases os.getD o .dead with
   | row a b c xs => simp only; cases xs[j]? <;> rfl
   | frz a xs => simp only; cases xs[j]? <;> rfl
   | _ => rfl
 ·rename_i o j len
  simp only [lend]
  cases sel.contains o with
  | true => rfl
  | false =>
   simp only [Bool.false_eq_true, if_false, elK_eq]
   cases os.getD o .dead with
   | row a b c xs =>
    simp only
    cases xs[j]? with
    | none => rfl
    | some el =>
     simp only [bind_some']
     cases el[c]? with
     | none => rfl
     | some d => cases d <;> simp only [tst_dec, ite_none, bind_ite, bind_some', bind_none']
   | _ => rfl
 ·exact liftV_eq _ _
def lendLK (os : List Obj) (sel : List Nat) : List AV → (List AV → Option β) → Option β
 | [], K => K []
 | v :: vs, K => lend1K os sel v fun v => v.deep fun v => lendLK os sel vs fun l => K (v :: l)
theorem lendLK_eq (os : List Obj) (sel : List Nat) : ∀ (vs : List AV) (K : List AV → Option β), lendLK os sel vs K = (lendL os sel vs).bind K
 | [], K => by simp only [lendLK, lendL]; rfl
 | v :: vs, K => by
  simp only [lendLK, lendL, lend1K_eq, AV.deep_eq]
  cases lend os sel v with
  | none => rfl
  | some d =>
   simp only [bind_some']
   rw [lendLK_eq]
   cases lendL os sel vs <;> rfl
def lendK (os : List Obj) (sel : List Nat) (v : AV) (K : AV → Option β) : Option β := match v with
 | .agg cs => lendLK os sel cs fun l => K (.agg l)
 | v => lend1K os sel v K
theorem lendK_eq (os : List Obj) (sel : List Nat) (v : AV) (K : AV → Option β) : lendK os sel v K = (lend os sel v).bind K := by
 unfold lendK
 split
 ·rename_i cs
  simp only [lend, lendLK_eq]
  cases lendL os sel cs <;> rfl
 ·exact lend1K_eq os sel _ K
def passK (os : List Obj) (sel : List Nat) : List Bool → List AV → (List AV → Option β) → Option β
 | _, [], K => K []
 | b, v :: vs, K => match b.headD false with
  | true => tst v.noBr ((v.ren (posOf sel)).deep fun v' => passK os sel b.tail vs fun l => K (v' :: l)) none
  | false => lendK os sel v fun v' => v'.deep fun v' => passK os sel b.tail vs fun l => K (v' :: l)
theorem passK_eq (os : List Obj) (sel : List Nat) : ∀ (bs : List Bool) (vs : List AV) (K : List AV → Option β), passK os sel bs vs K = (passArgs os sel bs vs).bind K
 | bs, [], K => by simp [passK, passArgs]
 | bs, v :: vs, K => by
  have tb : ∀ (b : Bool) (t : Option β), tst b t none = if b = true then t else none := fun b t => by cases b <;> rfl
  simp only [passK, passArgs]
  cases bs.headD false with
  | true =>
   simp only [if_true, tb, AV.deep_eq]
   cases v.noBr with
   | false => rfl
   | true => simp only [if_true]; rw [passK_eq]; cases passArgs os sel bs.tail vs <;> rfl
  | false =>
   simp only [Bool.false_eq_true, if_false, AV.deep_eq]
   rw [lendK_eq]
   cases lend os sel v with
   | none => rfl
   | some v' => simp only [bind_some']; rw [passK_eq]; cases passArgs os sel bs.tail vs <;> rfl
def forceNs {α : Type} : List Nat → (List Nat → α) → α
 | [], f => f []
 | n :: l, f => forceN n (fun n => forceNs l fun l => f (n :: l)) lits
theorem forceNs_eq {α : Type} : ∀ (l : List Nat) (f : List Nat → α), forceNs l f = f l
 | [], f => rfl
 | n :: l, f => by simp only [forceNs, forceN_eq]; rw [forceNs_eq l]
theorem hasN_eq : ∀ (l : List Nat) (o : Nat), hasN l o = l.contains o
 | [], _ => rfl
 | x :: l, o => by
  simp only [hasN, List.contains_cons, hasN_eq l, beq_dec]
  by_cases h : x = o
  ·simp [h]
  ·have : (o == x) = false := by simp; exact fun e => h e.symm
   simp [h, this]
def reachK {α : Type} (os : List Obj) : Nat → List Nat → List Nat → (List Nat → α) → α
 | 0, _, done, K => K done
 | _ + 1, [], done, K => K done
 | n + 1, o :: todo, done, K => match hasN done o with
  | true => reachK os n todo done K
  | false => forceNs ((os.getD o .dead).ids ++ todo) fun todo => reachK os n todo (done ++ [o]) K
theorem reachK_eq {α : Type} (os : List Obj) : ∀ (n : Nat) (todo done : List Nat) (K : List Nat → α), reachK os n todo done K = K (reach os n todo done)
 | 0, _, _, _ => rfl
 | _ + 1, [], _, _ => rfl
 | n + 1, o :: todo, done, K => by
  simp only [reachK, reach, hasN_eq]
  cases done.contains o with
  | true => exact reachK_eq os n todo done K
  | false => simp only [forceNs_eq]; exact reachK_eq os n _ _ K
def ordK {α : Type} (os : List Obj) (n : Nat) (todo done : List Nat) (K : List Nat → α) : α := forceNs todo fun todo => reachK os n todo done fun ord => forceNs ord K
theorem ordK_eq {α : Type} (os : List Obj) (n : Nat) (todo done : List Nat) (K : List Nat → α) : ordK os n todo done K = K (reach os n todo done) := by
 simp only [ordK, forceNs_eq, reachK_eq]
def posB : List Nat → Nat → Nat → Option Nat
 | [], _, _ => none
 | x :: l, o, i => match Nat.beq x o with
  | true => forceN i some lits
  | false => posB l o (i + 1)
theorem posB_eq : ∀ (l : List Nat) (o i : Nat), posB l o i = posOf l o i
 | [], _, _ => rfl
 | x :: l, o, i => by
  simp only [posB, posOf, beq_dec, forceN_eq]
  by_cases h : x = o
  ·simp [h]
  ·simp [h, posB_eq l o (i + 1)]
theorem posB_fun (l : List Nat) : (fun o => posB l o 0) = posOf l := funext fun o => posB_eq l o 0
def pickB (ord : List Nat) (os : List Obj) : List Obj := ord.map fun o => (os.getD o .dead).ren fun o => posB ord o 0
theorem pickB_eq (ord : List Nat) (os : List Obj) : pickB ord os = pickOs ord os := by
 unfold pickB pickOs
 rw [posB_fun]
def localK (W : CallF) (cf : CF) (demC : Bool) (f : Nat) (args : List AV) (nb : Nat) (os : List Obj) (K : AV → List Obj → Option β) : Option β :=
 ordK os 40 (refIds cf.byRef args) [] fun sel =>
 forceOs (pickB sel os) fun so =>
 match so.all Obj.noBr && sel.all (fun o => Nat.blt o os.length) with
 | false => none
 | true => passK os sel cf.byRef args fun args' => match W f args' so with
  | none => none
  | some (r, os') =>
   forceOs (match demC with | true => (os'.map (Obj.ren (backId sel nb sel.length))).map Obj.demote | false => os'.map (Obj.ren (backId sel nb sel.length))) fun os'' =>
   forceOs (putBack sel os'' os) fun base =>
   (r.ren (backId sel nb sel.length)).deep fun v => forceOs (base ++ (List.replicate (nb - base.length) Obj.dead) ++ os''.drop sel.length) fun os => K v os
theorem localK_eq (W : CallF) (cf : CF) (demC : Bool) (f : Nat) (args : List AV) (nb : Nat) (os : List Obj) (K : AV → List Obj → Option β) : localK W cf demC f args nb os K = (localCall W cf demC f args nb os).bind fun p => K p.1 p.2 := by
 simp only [localK, localCall, forceOs_eq, passK_eq, AV.deep_eq, ordK_eq, pickB_eq]
 generalize (pickOs (reach os 40 (refIds cf.byRef args) []) os) = so
 cases so.all Obj.noBr && (reach os 40 (refIds cf.byRef args) []).all (fun o => Nat.blt o os.length) with
 | false => rfl
 | true =>
  simp only [if_true]
  cases passArgs os (reach os 40 (refIds cf.byRef args) []) cf.byRef args with
  | none => rfl
  | some aS =>
   simp only [bind_some']
   cases W f aS so with
   | none => rfl
   | some p => cases demC <;> rfl
end Go.Gn

namespace Go.Gn
open Go
abbrev EqF := List Nat → List AV → List AV → Option Bool
structure IsK (G : Nat → Option CF) (W : CallF) (L : LoopF) (E : EqF) (T : Prop → Bool) : Prop where
 w : IsW G W L
 e : ∀ ks xs ys, E ks xs ys = eqCells ks xs ys
 t : ∀ p, T p = true ↔ p
theorem exists_K (G : Nat → Option CF) : ∃ W L E T, IsK G W L E T := by
 obtain ⟨W, L, h⟩ := exists_W G
 classical
 exact ⟨W, L, eqCells, fun p => decide p, h, fun _ _ _ => rfl, fun p => by simp⟩
variable {β : Type}
def callK (W : CallF) (G : Nat → Option CF) (me : CF) (f : Nat) (vs : List AV) (nb : Nat) (os : List Obj) (K : AV → List Obj → Option β) : Option β := match G f with
 | none => none
 | some cf => match cf.inl with
  | true => (match AV.noBrL vs with
   | true => localK (ckCall W) cf me.demC f vs nb os K
   | false => liftK (W f vs os) K)
  | false => localK W cf me.demC f vs nb os K
def evIK (W : CallF) (E : EqF) (G : Nat → Option CF) (me : CF) (ins : I) (ts : Ts) (nb : Nat) (os : List Obj) (K : AV → List Obj → Option β) : Option β :=
 match ins with
 | .mv x => (getX ts x).force fun v => K v os
 | .pick c a b => match getX ts c with
  | .bool c => match c with
   | true => (getX ts a).force fun v => K v os
   | false => (getX ts b).force fun v => K v os
  | _ => none
 | .bin op x y => (getX ts x).force fun x => (getX ts y).force fun y => binK op x y fun v => K v os
 | .eqa neg ks x y => match getX ts x, getX ts y with
  | .agg xs, .agg ys => match E ks xs ys with
   | none => none
   | some b => match neg with
    | true => K (.bool (!b)) os
    | false => K (.bool b) os
  | _, _ => none
 | .load agg n a => (getX ts a).force fun a => loadK agg n a os fun v => K v os
 | .store n a v => (getX ts a).force fun a => (getX ts v).force fun v => storeK me.own n a v os fun os => K .un os
 | .iadr sz x i => match getX ts i with
  | .int _ n => (getX ts x).force fun x => iadrK sz x n os fun v => K v os
  | _ => none
 | .idx x i => (getX ts x).force fun x => (getX ts i).force fun i => idxK x i fun v => K v os
 | .sstr x lo hi => match getX ts x, optI ts lo, optI ts hi with
  | .str s, some l, some h => sstrK s l h fun v => K v os
  | _, _, _ => none
 | .ssl sz x lo hi => match optI ts lo, optI ts hi with
  | some l, some h => (getX ts x).force fun x => sslK sz x l h os fun v => K v os
  | _, _ => none
 | .mksl sz bytes zs l c => (getX ts l).force fun l => (getX ts c).force fun c => mkslK sz bytes zs l c nb os K
 | .app sz bytes _ s x => (getX ts s).force fun s => (getX ts x).force fun x => appK me.own sz bytes nb s x os K
 | .call f args => forceL (args.map (getX ts)) fun vs => callK W G me f vs nb os K
 | .callv x args => match getX ts x with
  | .fn f caps => forceL (args.map (getX ts) ++ caps) fun vs => callK W G me f vs nb os K
  | _ => none
 | i => liftK (evI W G me i ts nb os) K
theorem map_bindV {α γ δ : Type} (r : Option α) (f : α → γ) (K : γ → Option δ) : (r.map f).bind K = r.bind fun a => K (f a) := by cases r <;> rfl
theorem callK_eq (W : CallF) (G : Nat → Option CF) (me : CF) (f : Nat) (vs : List AV) (nb : Nat) (os : List Obj) (K : AV → List Obj → Option β) : callK W G me f vs nb os K = (match G f with
  | none => none
  | some cf => if inlC cf vs then W f vs os else localCall (callOf cf W) cf me.demC f vs nb os).bind fun p => K p.1 p.2 := by
 unfold callK
 cases G f with
 | none => rfl
 | some cf =>
  simp only
  rcases Bool.eq_false_or_eq_true cf.inl with hi | hi
  ·rcases Bool.eq_false_or_eq_true (AV.noBrL vs) with hb | hb
   ·have e1 : inlC cf vs = false := by simp [inlC, hb]
    have e2 : callOf cf W = ckCall W := by simp only [callOf, hi]
    simp only [hi, hb, e1, e2, Bool.false_eq_true, if_false, localK_eq]
   ·have e1 : inlC cf vs = true := by simp [inlC, hi, hb]
    simp only [hi, hb, e1, if_true, liftK_eq]
  ·have e1 : inlC cf vs = false := by simp [inlC, hi]
   have e2 : callOf cf W = W := by simp only [callOf, hi]
   simp only [hi, e1, e2, Bool.false_eq_true, if_false, localK_eq]
theorem evIK_eq (W : CallF) {E : EqF} (hE : ∀ ks xs ys, E ks xs ys = eqCells ks xs ys) (G : Nat → Option CF) (me : CF) (ins : I) (ts : Ts) (nb : Nat) (os : List Obj) (K : AV → List Obj → Option β) : evIK W E G me ins ts nb os K = (evI W G me ins ts nb os).bind fun p => K p.1 p.2 := by
 unfold evIK
 split
 ·simp only [evI, AV.force_eq, bind_some']
 ·simp only [evI, AV.force_eq]
  rename_i c a b
  generalize getX ts c = v
  cases v <;> first | rfl | (rename_i c; cases c <;> rfl)
 ·simp only [evI, AV.force_eq, binK_eq, map_bindV]
 ·simp only [evI, hE]
  rename_i neg ks x y
  generalize getX ts x = v
  generalize getX ts y = u
  cases v <;> try rfl
  cases u <;> try rfl
  rename_i xs ys
  simp only [map_bindV]
  cases eqCells ks xs ys with
  | none => rfl
  | some b => cases neg <;> rfl
 ·simp only [evI, AV.force_eq, loadK_eq, map_bindV]
 ·simp only [evI, AV.force_eq, storeK_eq, map_bindV]
 ·simp only [evI, AV.force_eq]
  rename_i sz x i
  generalize getX ts i = v
  cases v <;> try rfl
  simp only [iadrK_eq, map_bindV]
 ·simp only [AV.force_eq]
  exact idxK_eq W G me ts _ _ nb os K
 ·simp only [evI]
  rename_i x lo hi
  generalize getX ts x = v
  generalize optI ts lo = l
  generalize optI ts hi = h
  cases v <;> try rfl
  cases l <;> try rfl
  cases h <;> try rfl
  simp only [sstrK_eq, map_bindV]
 ·simp only [evI, AV.force_eq]
  rename_i sz x lo hi
  generalize optI ts lo = l
  generalize optI ts hi = h
  cases l <;> try rfl
  cases h <;> try rfl
  simp only [sslK_eq, map_bindV]
 ·simp only [AV.force_eq]
  exact mkslK_eq W G me ts _ _ _ _ _ nb os K
 ·simp only [evI, AV.force_eq]
  exact appK_eq _ _ _ _ _ _ _ K
 ·simp only [evI, forceL_eq, callK_eq]
  rfl
 ·simp only [evI, forceL_eq, callK_eq]
  rename_i x args
  generalize getX ts x = v
  cases v <;> rfl
 ·exact liftK_eq _ _
def evGo (W : CallF) (E : EqF) (G : Nat → Option CF) (me : CF) (ins : I) (d : Option Nat) (nb : Nat) (ts : Ts) (os : List Obj) (K : St → Option β) : Option β :=
 evIK W E G me ins ts nb os fun v os' => match Nat.ble os.length os'.length with
  | true => (match d with | some t => K ⟨(t, v) :: ts, os'⟩ | none => K ⟨ts, os'⟩)
  | false => none
def evNo (d : Option Nat) (ts : Ts) (os : List Obj) (K : St → Option β) : Option β := match d with
 | some t => K ⟨(t, .un) :: ts, os⟩
 | none => K ⟨ts, os⟩
def evOK (W : CallF) (E : EqF) (G : Nat → Option CF) (me : CF) (o : O) (nb : Nat) (st : St) (K : St → Option β) : Option β :=
 match o, st with
 | ⟨d, ins, g, _⟩, ⟨ts, os⟩ =>
 match g with
 | none => evGo W E G me ins d nb ts os K
 | some (t, b) => match ts.at t with
  | .bool g => match b with
   | true => match g with
    | true => evGo W E G me ins d nb ts os K
    | false => evNo d ts os K
   | false => match g with
    | true => evNo d ts os K
    | false => evGo W E G me ins d nb ts os K
  | .un => evNo d ts os K
  | _ => none
theorem putK {K : St → Option β} (d : Option Nat) (ts : Ts) (v : AV) (os : List Obj) : (match d with | some t => K ⟨(t, v) :: ts, os⟩ | none => K ⟨ts, os⟩) = K ⟨putT ts d v, os⟩ := by cases d <;> rfl
theorem evOK_eq (W : CallF) {E : EqF} (hE : ∀ ks xs ys, E ks xs ys = eqCells ks xs ys) (G : Nat → Option CF) (me : CF) (o : O) (nb : Nat) (st : St) (K : St → Option β) : evOK W E G me o nb st K = (evO W G me o nb st).bind K := by
 obtain ⟨d, ins, g, dp⟩ := o
 obtain ⟨ts, os⟩ := st
 have go : evGo W E G me ins d nb ts os K = (match evI W G me ins ts nb os with
   | none => none
   | some (v, os') => match Nat.ble os.length os'.length with
    | true => some (⟨putT ts d v, os'⟩ : St)
    | false => none).bind K := by
  unfold evGo
  rw [evIK_eq W hE]
  cases evI W G me ins ts nb os with
  | none => rfl
  | some p =>
   obtain ⟨v, os'⟩ := p
   simp only [bind_some', putK]
   cases Nat.ble os.length os'.length <;> rfl
 have no : evNo d ts os K = (some (⟨putT ts d .un, os⟩ : St)).bind K := putK _ _ _ _
 simp only [evOK, evO]
 cases g with
 | none => exact go
 | some tb =>
  obtain ⟨t, b⟩ := tb
  simp only
  generalize ts.at t = v
  cases v <;> try rfl
  ·rename_i g
   cases g <;> cases b <;> simp only [if_true, if_false, Bool.false_eq_true] <;> first | exact go | exact no
  ·exact no
noncomputable def evOpsK (W : CallF) (E : EqF) (G : Nat → Option CF) (me : CF) (l : List O) : St → (St → Option β) → Option β :=
 List.rec (motive := fun _ => St → (St → Option β) → Option β) (fun st K => K st)
  (fun o _ ih st K => match st with | ⟨ts, os⟩ => forceN os.length (fun nb => evOK W E G me o nb ⟨ts, os⟩ fun st => ih st K) lits) l
theorem evOpsK_cons (W : CallF) (E : EqF) (G : Nat → Option CF) (me : CF) (o : O) (l : List O) (ts : Ts) (os : List Obj) (K : St → Option β) : evOpsK W E G me (o :: l) ⟨ts, os⟩ K = forceN os.length (fun nb => evOK W E G me o nb ⟨ts, os⟩ fun st => evOpsK W E G me l st K) lits := rfl
theorem evOpsK_eq (W : CallF) {E : EqF} (hE : ∀ ks xs ys, E ks xs ys = eqCells ks xs ys) (G : Nat → Option CF) (me : CF) : ∀ (l : List O) (st : St) (K : St → Option β), evOpsK W E G me l st K = (evOps W G me l st).bind K
 | [], st, K => rfl
 | o :: l, ⟨ts, os⟩, K => by
  simp only [evOpsK_cons, forceN_eq, evOps, evOK_eq W hE]
  cases evO W G me o os.length ⟨ts, os⟩ with
  | none => rfl
  | some s => exact evOpsK_eq W hE G me l s K
def evOpsTK (W : CallF) (E : EqF) (G : Nat → Option CF) (me : CF) (frs : List Nat) (L : Nat) : Nat → List O → St → (St → List St → Option β) → Option β
 | _, [], st, K => K st [st]
 | i, o :: l, ⟨ts, os⟩, K => forceN (nbOf frs L i os.length) (fun nb => evOK W E G me o nb ⟨ts, os⟩ fun st' => evOpsTK W E G me frs L (i + 1) l st' fun sf tr => K sf (⟨ts, os⟩ :: tr)) lits
theorem evOpsTK_eq (W : CallF) {E : EqF} (hE : ∀ ks xs ys, E ks xs ys = eqCells ks xs ys) (G : Nat → Option CF) (me : CF) (frs : List Nat) (L : Nat) : ∀ (l : List O) (i : Nat) (st : St) (K : St → List St → Option β), evOpsTK W E G me frs L i l st K = (evOpsT W G me frs L i l st).bind fun p => K p.1 p.2
 | [], i, st, K => rfl
 | o :: l, i, ⟨ts, os⟩, K => by
  simp only [evOpsTK, forceN_eq, evOpsT, evOK_eq W hE]
  cases evO W G me o (nbOf frs L i os.length) ⟨ts, os⟩ with
  | none => rfl
  | some s =>
   simp only [bind_some']
   rw [evOpsTK_eq W hE]
   cases evOpsT W G me frs L (i + 1) l s with
   | none => rfl
   | some p => rfl
def evDrawK0 (W : CallF) (E : EqF) (T : Prop → Bool) (G : Nat → Option CF) (me : CF) (prs : List (Nat × Nat)) (frs : List Nat) (ops : List O) (st : St) (K : St → Option β) : Option β :=
 match st with
 | ⟨ts, os⟩ => forceN os.length (fun L => forceOs (os ++ List.replicate frs.length Obj.dead) fun os => evOpsTK W E G me frs L 0 ops ⟨ts, os⟩ fun sf tr =>
  match (match frs with | [] => true | _ :: _ => apartOk G sf.ts L frs.length frs 0 ops tr) with
  | false => none
  | true => match prs with
   | [] => K sf
   | p :: ps => match T (Same me ops sf.ts tr (p :: ps)) with
    | true => K sf
    | false => none) lits
open Classical in
theorem evDrawK0_eq (W : CallF) {E : EqF} (hE : ∀ ks xs ys, E ks xs ys = eqCells ks xs ys) {T : Prop → Bool} (hT : ∀ p, T p = true ↔ p) (G : Nat → Option CF) (me : CF) (prs : List (Nat × Nat)) (frs : List Nat) (ops : List O) (st : St) (K : St → Option β) :
  evDrawK0 W E T G me prs frs ops st K = (evDraw W G me prs frs ops st).bind K := by
 obtain ⟨ts, os⟩ := st
 simp only [evDrawK0, evDraw, forceN_eq, forceOs_eq, evOpsTK_eq W hE]
 cases evOpsT W G me frs os.length 0 ops ⟨ts, os ++ List.replicate frs.length Obj.dead⟩ with
 | none => rfl
 | some p =>
  obtain ⟨sf, tr⟩ := p
  simp only [bind_some']
  have key : (match prs with
    | [] => K sf
    | p :: ps => match T (Same me ops sf.ts tr (p :: ps)) with
     | true => K sf
     | false => none) = (match prs with
    | [] => some sf
    | p :: ps => if Same me ops sf.ts tr (p :: ps) then some sf else none).bind K := by
   cases prs with
   | nil => rfl
   | cons p ps =>
    simp only
    by_cases hs : Same me ops sf.ts tr (p :: ps)
    ·rw [(hT _).2 hs, if_pos hs]; rfl
    ·have : T (Same me ops sf.ts tr (p :: ps)) = false := by
      cases h : T (Same me ops sf.ts tr (p :: ps)) with
      | false => rfl
      | true => exact absurd ((hT _).1 h) hs
     rw [this, if_neg hs]; rfl
  cases frs with
  | nil => exact key
  | cons f fs =>
   simp only
   cases apartOk G sf.ts os.length (f :: fs).length (f :: fs) 0 ops tr with
   | false => rfl
   | true => exact key
theorem evOpsT_nil (W : CallF) (G : Nat → Option CF) (me : CF) (L : Nat) : ∀ (l : List O) (i : Nat) (st : St), (evOpsT W G me [] L i l st).map Prod.fst = evOps W G me l st
 | [], i, st => rfl
 | o :: l, i, st => by
  simp only [evOpsT, evOps, nbOf]
  cases evO W G me o st.os.length st with
  | none => rfl
  | some s =>
   simp only
   rw [← evOpsT_nil W G me L l (i + 1) s]
   cases evOpsT W G me [] L (i + 1) l s <;> rfl
noncomputable def evDrawK (W : CallF) (E : EqF) (T : Prop → Bool) (G : Nat → Option CF) (me : CF) (prs : List (Nat × Nat)) (frs : List Nat) (ops : List O) (st : St) (K : St → Option β) : Option β := match prs with
 | [] => match frs with
  | [] => evOpsK W E G me ops st K
  | f :: fs => evDrawK0 W E T G me [] (f :: fs) ops st K
 | p :: ps => evDrawK0 W E T G me (p :: ps) frs ops st K
theorem evDrawK_eq (W : CallF) {E : EqF} (hE : ∀ ks xs ys, E ks xs ys = eqCells ks xs ys) {T : Prop → Bool} (hT : ∀ p, T p = true ↔ p) (G : Nat → Option CF) (me : CF) (prs : List (Nat × Nat)) (frs : List Nat) (ops : List O) (st : St) (K : St → Option β) :
  evDrawK W E T G me prs frs ops st K = (evDraw W G me prs frs ops st).bind K := by
 cases prs with
 | nil =>
  cases frs with
  | nil =>
   show evOpsK W E G me ops st K = _
   rw [evOpsK_eq W hE]
   congr 1
   rw [← evOpsT_nil W G me st.os.length ops 0 st]
   unfold evDraw
   simp only [List.length_nil, List.replicate_zero, List.append_nil]
   cases evOpsT W G me [] st.os.length 0 ops ⟨st.ts, st.os⟩ <;> rfl
  | cons f fs => exact evDrawK0_eq W hE hT G me [] (f :: fs) ops st K
 | cons p ps => exact evDrawK0_eq W hE hT G me (p :: ps) frs ops st K
def normK (m : Nat) (live : List Nat) (st : St) (K : St → Option β) : Option β := match st with
 | ⟨ts, os⟩ => forceTs (mask live ts) fun ts => ordK os 400 (((List.range m).flatMap fun o => (os.getD o .dead).ids) ++ Ts.ids ts) (List.range m) fun ord =>
  forceTs (Ts.ren (fun o => posB ord o 0) ts) fun ts => forceOs (pickB ord os) fun os => K ⟨ts, os⟩
theorem normK_eq (m : Nat) (live : List Nat) (st : St) (K : St → Option β) : normK m live st K = K (norm m live st) := by
 obtain ⟨ts, os⟩ := st
 simp only [normK, forceTs_eq, forceOs_eq, ordK_eq, pickB_eq, posB_fun, norm]
abbrev KF (β : Type) := St → (Xt → St → Option β) → Option β
noncomputable def regM (W : CallF) (E : EqF) (T : Prop → Bool) (G : Nat → Option CF) (me : CF) (d : Bool) (prs : List (Nat × Nat)) (frs : List Nat) (ops : List O) : KF β := fun st K => match d with
 | false => evOpsK W E G me ops st fun st => K .nrm st
 | true => evDrawK W E T G me prs frs ops st fun st => K .nrm st
def seqM (a b : KF β) : KF β := fun st K => a st fun x st => match x with
 | .nrm => b st K
 | .ext i => K (.ext i) st
 | .ret => K .ret st
def condM (c : X) (a b : KF β) : KF β := fun st K => match getX st.ts c with
 | .bool g => match g with
  | true => a st K
  | false => b st K
 | _ => none
def blkM (id : Nat) (c : KF β) : KF β := fun st K => c st fun x st => match x with
 | .ext i => match Nat.beq i id with
  | true => K .nrm st
  | false => K (.ext i) st
 | .nrm => K .nrm st
 | .ret => K .ret st
noncomputable def loopM (W : CallF) (L : LoopF) (G : Nat → Option CF) (me : CF) (m : Nat) (c : C) : KF β := fun st K => normK m me.live st fun st => match L (norm m me.live) (exitN m me.out (evCW W L G me m c)) st with
 | none => none
 | some (x, st) => K x st
noncomputable def evCK (W : CallF) (L : LoopF) (E : EqF) (T : Prop → Bool) (G : Nat → Option CF) (me : CF) (m : Nat) (c : C) : KF β :=
 C.rec (motive := fun _ => KF β) (fun st K => K .nrm st) (regM W E T G me) (fun _ _ a b => seqM a b) (fun c _ _ a b => condM c a b) (fun id _ c => blkM id c) (fun c _ => loopM W L G me m c) (fun id st K => K (.ext id) st) (fun st K => K .ret st) c
theorem evCK_eq (W : CallF) (L : LoopF) {E : EqF} (hE : ∀ ks xs ys, E ks xs ys = eqCells ks xs ys) {T : Prop → Bool} (hT : ∀ p, T p = true ↔ p) (G : Nat → Option CF) (me : CF) (m : Nat) : ∀ (c : C) (st : St) (K : Xt → St → Option β), evCK W L E T G me m c st K = (evCW W L G me m c st).bind fun p => K p.1 p.2
 | .skip, st, K => rfl
 | .reg false prs frs ops, st, K => by
  simp only [evCK, regM, evCW, evOpsK_eq W hE]
  cases evOps W G me ops st <;> rfl
 | .reg true prs frs ops, st, K => by
  simp only [evCK, regM, evCW, evDrawK_eq W hE hT]
  cases evDraw W G me prs frs ops st <;> rfl
 | .seq a b, st, K => by
  change seqM (evCK W L E T G me m a) (evCK W L E T G me m b) st K = _
  simp only [seqM, evCW]
  rw [evCK_eq W L hE hT G me m a]
  cases evCW W L G me m a st with
  | none => rfl
  | some p =>
   obtain ⟨x, s⟩ := p
   cases x with
   | nrm => exact evCK_eq W L hE hT G me m b s K
   | ext i => rfl
   | ret => rfl
 | .cond c a b, st, K => by
  change condM c (evCK W L E T G me m a) (evCK W L E T G me m b) st K = _
  simp only [condM, evCW]
  generalize getX st.ts c = v
  cases v <;> try rfl
  rename_i g
  cases g
  ·exact evCK_eq W L hE hT G me m b st K
  ·exact evCK_eq W L hE hT G me m a st K
 | .blk id c, st, K => by
  change blkM id (evCK W L E T G me m c) st K = _
  simp only [blkM, evCW]
  rw [evCK_eq W L hE hT G me m c]
  cases evCW W L G me m c st with
  | none => rfl
  | some p =>
   obtain ⟨x, s⟩ := p
   cases x with
   | nrm => rfl
   | ret => rfl
   | ext i =>
    simp only [bind_some', beq_dec]
    by_cases h : i = id <;> simp [h]
 | .loop c, st, K => by
  simp only [evCK, loopM, evCW, normK_eq]
  cases L (norm m me.live) (exitN m me.out (evCW W L G me m c)) (norm m me.live st) with
  | none => rfl
  | some p => rfl
 | .exit id, st, K => rfl
 | .ret, st, K => rfl
def nilFixK {β : Type} : List (Nat × Nat × Nat) → List AV → List Obj → (List AV → List Obj → Option β) → Option β
 | [], cs, os, K => K cs os
 | (p, sz, c0) :: l, cs, os, K => match cs[p]? with
  | some .nils => forceN os.length (fun n => nilFixK l (cs.set p (.hw n)) (os ++ [.row sz 0 c0 []]) K) lits
  | _ => nilFixK l cs os K
theorem nilFixK_eq {β : Type} : ∀ (l : List (Nat × Nat × Nat)) (cs : List AV) (os : List Obj) (K : List AV → List Obj → Option β), nilFixK l cs os K = K (nilFix l cs os).1 (nilFix l cs os).2
 | [], cs, os, K => rfl
 | (p, sz, c0) :: l, cs, os, K => by
  unfold nilFixK nilFix
  cases cs[p]? with
  | none => exact nilFixK_eq l cs os K
  | some v => cases v <;> first | exact nilFixK_eq l cs os K | (simp only [forceN_eq]; exact nilFixK_eq ..)
def nilVK {β : Type} (l : List (Nat × Nat × Nat)) (v : AV) (os : List Obj) (K : AV → List Obj → Option β) : Option β := match l with
 | [] => K v os
 | x :: l => match v with
  | .agg cs => nilFixK (x :: l) cs os fun cs os => K (.agg cs) os
  | v => K v os
theorem nilVK_eq {β : Type} (l : List (Nat × Nat × Nat)) (v : AV) (os : List Obj) (K : AV → List Obj → Option β) : nilVK l v os K = K (nilV l v os).1 (nilV l v os).2 := by
 cases l with
 | nil => rfl
 | cons x l =>
  cases v <;> first | rfl | exact nilFixK_eq ..
def finK (cf : CF) (m : Nat) (st : St) : Option (AV × List Obj) := match resOf st.ts st.os cf.res with
 | none => none
 | some vs => match cf.inl with
  | true => match cf.shIn with
   | true => none
   | false => (retAV vs).deep fun v => forceOs st.os fun os => some (v, os)
  | false => (retAV vs).deep fun v => nilVK cf.nilr v st.os fun v os => ordK os 400 (((List.range m).flatMap fun o => (os.getD o .dead).ids) ++ v.ids) (List.range m) fun ord =>
   (v.ren fun o => posB ord o 0).deep fun v => forceOs (match cf.demR with | true => (pickB ord os).map Obj.demote | false => pickB ord os) fun os =>
    match v.noBr && os.all Obj.noBr with
    | false => none
    | true => match cf.shIn with
     | false => some (v, os)
     | true => match !cf.demR && v.flat && os.all Obj.flat with
      | true => some (v, os)
      | false => none
theorem if_band {α : Type} (b c : Bool) (x : Option α) : (if (b && c) = true then x else none) = match b with
  | false => none
  | true => match c with
   | true => x
   | false => none := by cases b <;> cases c <;> rfl
theorem finK_eq (cf : CF) (m : Nat) (st : St) : finK cf m st = fin cf m st := by
 unfold finK fin
 cases resOf st.ts st.os cf.res with
 | none => rfl
 | some vs =>
  simp only [AV.deep_eq, nilVK_eq, forceOs_eq, ordK_eq]
  cases cf.inl with
  | true => cases cf.shIn <;> rfl
  | false =>
   simp only [Bool.false_eq_true, if_false]
   generalize nilV cf.nilr (retAV vs) st.os = q
   obtain ⟨v1, os1⟩ := q
   simp only
   have ho : (match cf.demR with | true => (pickB (retOrd m v1 os1) os1).map Obj.demote | false => pickB (retOrd m v1 os1) os1) = retOs m cf.demR v1 os1 := by
    unfold retOs
    rw [pickB_eq]
    cases cf.demR <;> rfl
   rw [show reach os1 400 (((List.range m).flatMap fun o => (os1.getD o .dead).ids) ++ v1.ids) (List.range m) = retOrd m v1 os1 from rfl, ho, posB_fun]
   generalize v1.ren (posOf (retOrd m v1 os1)) = v
   generalize retOs m cf.demR v1 os1 = os
   refine Eq.trans ?_ (if_band (v.noBr && os.all Obj.noBr) (!cf.shIn || (!cf.demR && v.flat && os.all Obj.flat)) (some (v, os))).symm
   generalize (v.noBr && os.all Obj.noBr) = b
   generalize (!cf.demR && v.flat && os.all Obj.flat) = d
   cases b <;> cases cf.shIn <;> cases d <;> rfl
noncomputable def bodyK (W : CallF) (L : LoopF) (E : EqF) (T : Prop → Bool) (G : Nat → Option CF) (f : Nat) (args : List AV) (os : List Obj) : Option (AV × List Obj) := match G f with
 | none => none
 | some cf => match cf.ext with
  | some g => match cf.inl with
   | true => none
   | false => g args os
  | none => match Nat.blt cf.nt args.length with
   | true => none
   | false => forceN os.length (fun m => evCK W L E T G cf m cf.body ⟨start 0 (match cf.shIn with | true => AV.toShL args | false => args) cf.nt, os⟩ fun x st => match x with
    | .ext _ => none
    | .nrm => finK cf m st
    | .ret => finK cf m st) lits
section
variable {G : Nat → Option CF} {W : CallF} {L : LoopF} {E : EqF} {T : Prop → Bool} (h : IsK G W L E T)
include h
theorem IsK.call (f : Nat) (args : List AV) (os : List Obj) : W f args os = bodyK W L E T G f args os := by
 rw [h.w.call]
 unfold bodyW bodyK
 cases G f with
 | none => rfl
 | some cf =>
  simp only
  cases cf.ext with
  | some g => simp only; cases cf.inl <;> rfl
  | none =>
   simp only [blt_dec, forceN_eq]
   by_cases hn : cf.nt < args.length
   ·simp [hn]
   ·simp only [hn, if_false, decide_false, evCK_eq W L h.e h.t, finK_eq]
    have : (match cf.shIn with | true => AV.toShL args | false => args) = (if cf.shIn then AV.toShL args else args) := by cases cf.shIn <;> rfl
    rw [this]
    cases evCW W L G cf os.length cf.body ⟨start 0 (if cf.shIn then AV.toShL args else args) cf.nt, os⟩ with
    | none => rfl
    | some p => obtain ⟨x, s⟩ := p; cases x <;> rfl
theorem IsK.loop (me : CF) (m : Nat) (c : C) (st : St) : L (norm m me.live) (exitN m me.out (evCW W L G me m c)) st = evCK W L E T G me m c st fun x st' => match x with
  | .nrm => normK m me.live st' fun st' => L (norm m me.live) (exitN m me.out (evCW W L G me m c)) st'
  | .ext i => normK m me.out st' fun st' => some (.ext i, st')
  | .ret => normK m me.out st' fun st' => some (.ret, st') := by
 rw [h.w.loop, evCK_eq W L h.e h.t]
 unfold exitN
 cases evCW W L G me m c st with
 | none => rfl
 | some p =>
  obtain ⟨x, s⟩ := p
  cases x with
  | nrm => simp only [bind_some', normK_eq]
  | ext i => simp only [bind_some', normK_eq]
  | ret => simp only [bind_some', normK_eq]
end
end Go.Gn

