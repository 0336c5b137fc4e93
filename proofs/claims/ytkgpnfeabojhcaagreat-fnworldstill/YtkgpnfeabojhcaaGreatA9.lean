/- Part 9 of a proof: an evaluator of the program, proved sound, and what it answers. -/
import Derived.Test.YtkgpnfeabojhcaaGreatA7
import Derived.Test.YtkgpnfeabojhcaaGreatA8
import Derived.Laws.Bits64
set_option linter.all false
namespace Go.Gn
open Go
theorem wrap_id {n : Int} (h1 : -9223372036854775808 ≤ n) (h2 : n ≤ 9223372036854775807) : IntKind.i64.wrap n = n := by
 rw [IntKind.wrap_i64]; omega
theorem wrap_succ {i : Nat} (h : i < 4611686018427387904) : IntKind.i64.wrap ((i : Int) + 1) = ((i + 1 : Nat) : Int) := by
 rw [wrap_id (by omega) (by omega)]; rfl
theorem byteAt_range (s : ByteArray) (i : Nat) : 0 ≤ byteAt s i ∧ byteAt s i ≤ 255 := by
 unfold byteAt
 split
 ·have := (s[i]).toNat_lt
  omega
 ·omega
theorem wrap_byte (s : ByteArray) (i : Nat) : IntKind.i64.wrap (byteAt s i) = byteAt s i := by
 have := byteAt_range s i
 exact wrap_id (by omega) (by omega)
theorem blt_self (i : Nat) : Nat.blt i i = false := by rw [blt_dec]; simp
theorem blt_t {a b : Nat} (h : a < b) : Nat.blt a b = true := by rw [Nat.blt_eq]; exact h
theorem get_set_self {α : Type} {l : List α} {i : Nat} {x : α} (h : i < l.length) : (l.set i x)[i]? = some x := by simp [h]
theorem nc0 : ((0 : Nat) : Int) = 0 := rfl
abbrev Str := ByteArray
def seq (a b : Str) : Bool := a.toList == b.toList
theorem seq_eq (a b : Str) : seq a b = decide (a = b) := by
 unfold seq
 rw [ByteArray.toList_eq, ByteArray.toList_eq, Bool.eq_iff_iff]
 simp only [beq_iff_eq, decide_eq_true_eq]
 constructor
 ·intro h; cases a; cases b; simp only at h; congr; exact Array.toList_inj.1 h
 ·rintro rfl; rfl
theorem seq_refl (a : Str) : seq a a = true := by rw [seq_eq]; simp
structure OpM where
 kind : Int
 name : Str
 to : Str
 n : Int
 text : Str
 deriving DecidableEq
def opD (o : OpM) : List D := [.int .i64 o.kind, .str o.name, .str o.to, .int .i64 o.n, .str o.text]
def opC (o : OpM) : List AV := [.int .i64 o.kind, .str o.name, .str o.to, .int .i64 o.n, .str o.text]
def opEq (a b : OpM) : Bool := a.kind == b.kind && (seq a.name b.name && (seq a.to b.to && (a.n == b.n && seq a.text b.text)))
theorem opEq_eq (a b : OpM) : opEq a b = decide (a = b) := by
 obtain ⟨k, n, t, m, x⟩ := a
 obtain ⟨k', n', t', m', x'⟩ := b
 simp only [opEq, seq_eq, OpM.mk.injEq]
 rw [Bool.eq_iff_iff]
 simp
def OpM.Sz (o : OpM) : Prop := o.name.size < 4611686018427387904 ∧ o.to.size < 4611686018427387904 ∧ o.text.size < 4611686018427387904
structure SlotM where
 text : Str
 uses : Int
 deriving DecidableEq
def slotD (s : SlotM) : List D := [.str s.text, .int .i64 s.uses]
structure VolM where
 name : Str
 blocks : List Int
 deriving DecidableEq
def intD (n : Int) : List D := [.int .i64 n]
def volD (v : VolM) : List D := [.str v.name, .sl (v.blocks.map intD)]
structure PoolM where
 slots : List SlotM
 vols : List VolM
 deriving DecidableEq
def poolA (p : PoolM) : AV := .agg [.sl .br (p.slots.map slotD), .sl .br (p.vols.map volD)]
structure NodeM where
 up : Bool
 term : Int
 leads : Bool
 alone : Bool
 ops : List OpM
 deriving DecidableEq
structure MsgM where
 kind : Int
 to : Int
 term : Int
 n : Int
 op : OpM
 ops : List OpM
 deriving DecidableEq
theorem szOk_map {α : Type} (f : α → List D) (sz : Nat) (h : ∀ a, (f a).length = sz) (l : List α) : szOk sz (l.map f) = true := by
 cases l with
 | nil => rfl
 | cons a l => simp only [List.map_cons, szOk, h, Nat.beq_refl]
theorem map_get {α : Type} {f : α → List D} {l : List α} {i : Nat} {a : α} (h : l[i]? = some a) : (l.map f)[i]? = some (f a) := by simp [h]
theorem beq_t {a b : Nat} (h : a = b) : Nat.beq a b = true := by rw [h]; exact Nat.beq_refl _
theorem agree1 {l : List Nat} {os os' : List Obj} {q : Nat} (hl : l = [q]) (hg : os.getD q .dead = os'.getD q .dead) : Agree l os os' := by
 subst hl
 intro r hr
 rw [List.mem_singleton] at hr
 rw [hr]; exact hg
theorem dT {p : Prop} [Decidable p] (q : p := by first | omega | (simp only [List.length_map, List.length_set, List.length_append, List.length_cons, List.length_nil, List.length_replicate, List.length_take, List.length_drop]; omega)) : decide p = true := decide_eq_true q
theorem dF {p : Prop} [Decidable p] (q : ¬ p := by first | omega | (simp only [List.length_map, List.length_set, List.length_append, List.length_cons, List.length_nil, List.length_replicate, List.length_take, List.length_drop]; omega)) : decide p = false := decide_eq_false q
theorem g1 {α : Sort _} {a b : α} (q : a = b := by first | exact dT | exact dF) : a = b := q
theorem g2 {α : Sort _} {a b : α} (q : a = b := by first | exact wrap_id (by omega) (by omega) | exact Int.add_sub_cancel _ _ | exact blt_self _ | exact blt_t (by first | assumption | omega) | exact Nat.beq_refl _ | exact beq_t (by first | omega | (simp only [List.length_map, List.length_set, List.length_append, List.length_cons, List.length_nil, List.length_replicate, List.length_take, List.length_drop]; omega)) | exact (h.t _).2 (by repeat (first | exact trivial | refine ⟨rfl, ?_⟩ | refine ⟨rdV_os rfl (fun _ => agree1 rfl rfl), ?_⟩))) : a = b := q
section
variable {W : CallF} {L : LoopF} {E : EqF} {T : Prop → Bool} (h : IsK G W L E T)
include h
theorem E_op (a b : OpM) : E [1, 2, 2, 1, 2] (opC a) (opC b) = some (opEq a b) := by
 rw [h.e]
 simp only [opC, eqCells, eqCell, if_true, opEq, seq]
 cases a.kind == b.kind <;> simp only [Bool.true_and, Bool.false_and]
 cases a.name.toList == b.name.toList <;> simp only [Bool.true_and, Bool.false_and]
 cases a.to.toList == b.to.toList <;> simp only [Bool.true_and, Bool.false_and]
 cases a.n == b.n <;> simp only [Bool.true_and, Bool.false_and]
 cases a.text.toList == b.text.toList <;> rfl
end
end Go.Gn

namespace Go.Gn
open Go
set_option maxRecDepth 100000
def inR (x lo hi : Int) : Bool := decide (lo ≤ x) && decide (x ≤ hi)
def isAd (b : Int) : Bool := inR b 97 100
def allAd (s : Str) (i m : Nat) : Bool := (List.range' i m).all fun j => isAd (byteAt s j)
def textOk (s : Str) : Bool := allAd s 0 s.size && decide ((s.size : Int) ≤ 4)
def isName (s : Str) : Bool := seq s ⟨#[65]⟩ || (seq s ⟨#[66]⟩ || (seq s ⟨#[67]⟩ || seq s ⟨#[68]⟩))
def placeSum (s : Str) : Nat → Nat → Int → Int
 | _, 0, acc => acc
 | i, m + 1, acc => placeSum s (i + 1) m (acc + ((i : Int) + 1) * (byteAt s i - 96))
def textPlace (s : Str) : Int := (placeSum s 0 s.size 0).tmod 8 + 1
def textNext (p : Int) : Int := p.tmod 8 + 1
theorem allAd_succ (s : Str) (i m : Nat) : allAd s i (m + 1) = (isAd (byteAt s i) && allAd s (i + 1) m) := by
 unfold allAd; rw [List.range'_succ, List.all_cons]
theorem isAd_iff {b : Int} : isAd b = true ↔ 97 ≤ b ∧ b ≤ 100 := by simp [isAd, inR]
theorem placeSum_range (s : Str) : ∀ (m i : Nat) (acc : Int), allAd s i m = true → i + m ≤ 4 → 0 ≤ acc → acc ≤ 100 * i → 0 ≤ placeSum s i m acc ∧ placeSum s i m acc ≤ 100 * (i + m)
 | 0, i, acc, _, _, h1, h2 => by simp only [placeSum]; omega
 | m + 1, i, acc, ha, hi, h1, h2 => by
  rw [allAd_succ, Bool.and_eq_true, isAd_iff] at ha
  obtain ⟨⟨h3, h4⟩, h5⟩ := ha
  simp only [placeSum]
  have : i = 0 ∨ i = 1 ∨ i = 2 ∨ i = 3 := by omega
  have h6 : 0 ≤ ((i : Int) + 1) * (byteAt s i - 96) ∧ ((i : Int) + 1) * (byteAt s i - 96) ≤ 16 := by rcases this with rfl | rfl | rfl | rfl <;> omega
  have := placeSum_range s m (i + 1) (acc + ((i : Int) + 1) * (byteAt s i - 96)) h5 (by omega) (by omega) (by omega)
  omega
theorem textPlace_range {s : Str} (h : textOk s = true) : 1 ≤ textPlace s ∧ textPlace s ≤ 8 := by
 simp only [textOk, Bool.and_eq_true, decide_eq_true_eq] at h
 have := placeSum_range s s.size 0 0 h.1 (by omega) (by omega) (by omega)
 unfold textPlace
 rw [Int.tmod_eq_emod_of_nonneg this.1]
 omega
theorem textNext_range {p : Int} (h : 1 ≤ p) : 1 ≤ textNext p ∧ textNext p ≤ 8 := by
 unfold textNext
 rw [Int.tmod_eq_emod_of_nonneg (by omega)]
 omega
section
variable {W : CallF} {L : LoopF} {E : EqF} {T : Prop → Bool} (h : IsK G W L E T)
include h
theorem ev_within (x lo hi : Int) : W f_impl_within [.int .i64 x, .int .i64 lo, .int .i64 hi] [] = some (.bool (inR x lo hi), []) := by
 rw [h.call]
 unfold inR
 conv => lhs; whnf
 cases h1 : decide (x ≥ lo)
 ·kernel_rfl
 ·kernel_rfl
theorem ev_l6In (x lo hi : Int) : W f_spec_l6In [.int .i64 x, .int .i64 lo, .int .i64 hi] [] = some (.bool (inR x lo hi), []) := by
 rw [h.call]
 unfold inR
 conv => lhs; whnf
 cases h1 : decide (x ≥ lo)
 ·kernel_rfl
 ·kernel_rfl
theorem ev_isNode (x : Int) : W f_impl_isNode [.int .i64 x] [] = some (.bool (inR x 1 2), []) := by
 rw [h.call]; conv => lhs; whnf
 rw [ev_within h]; kernel_rfl
theorem ev_isTerm (x : Int) : W f_impl_isTerm [.int .i64 x] [] = some (.bool (inR x 0 99), []) := by
 rw [h.call]; conv => lhs; whnf
 rw [ev_within h]; kernel_rfl
theorem ev_isSlot (x : Int) : W f_impl_isSlot [.int .i64 x] [] = some (.bool (inR x 1 8), []) := by
 rw [h.call]; conv => lhs; whnf
 rw [ev_within h]; kernel_rfl
theorem textOk_loop (s : Str) (hs : s.size < 4611686018427387904) : ∀ m i, i + m = s.size → L (norm 0 cf162.live) (exitN 0 cf162.out (evCW W L G cf162 0 c162l0)) ⟨[(0, .str s), (5, .int .i64 s.size), (6, .int .i64 i)], []⟩ =
  some (if allAd s i m then (.ext 0, ⟨[(0, .str s), (2, .top)], []⟩) else (.ret, ⟨[(0, .str s), (2, .bool false)], []⟩))
 | 0, i, hi => by
  rw [h.loop]
  conv => lhs; whnf
  rw [show decide ((i:Int) < (s.size : Int)) = false from decide_eq_false (by omega)]
  kernel_rfl
 | m + 1, i, hi => by
  rw [h.loop]
  conv => lhs; whnf
  rw [show decide ((i:Int) < (s.size : Int)) = true from decide_eq_true (by omega)]
  conv => lhs; whnf
  rw [show decide (i < s.size) = true from decide_eq_true (by omega)]
  conv => lhs; whnf
  rw [wrap_byte, ev_within h, allAd_succ]
  conv => lhs; whnf
  change (match !isAd (byteAt s i) with | true => _ | false => _) = _
  cases isAd (byteAt s i)
  ·kernel_rfl
  ·conv => lhs; whnf
   rw [wrap_succ (by omega), textOk_loop s hs m (i + 1) (by omega)]
   rfl
theorem ev_TextOk (s : Str) (hs : s.size < 4611686018427387904) : W f_impl_TextOk [.str s] [] = some (.bool (textOk s), []) := by
 unfold textOk
 rw [h.call]; conv => lhs; whnf
 have e := textOk_loop h s hs s.size 0 (by omega)
 rw [nc0] at e; rw [e]; clear e
 cases allAd s 0 s.size <;> rfl
theorem textOk_loop' (s : Str) (hs : s.size < 4611686018427387904) : ∀ m i, i + m = s.size → L (norm 0 cf201.live) (exitN 0 cf201.out (evCW W L G cf201 0 c201l0)) ⟨[(0, .str s), (3, .int .i64 i)], []⟩ =
  some (if allAd s i m then (.ext 0, ⟨[(0, .str s), (2, .top)], []⟩) else (.ret, ⟨[(0, .str s), (2, .bool false)], []⟩))
 | 0, i, hi => by
  rw [h.loop]
  conv => lhs; whnf
  rw [show decide ((i:Int) < (s.size : Int)) = false from decide_eq_false (by omega)]
  kernel_rfl
 | m + 1, i, hi => by
  rw [h.loop]
  conv => lhs; whnf
  rw [show decide ((i:Int) < (s.size : Int)) = true from decide_eq_true (by omega)]
  conv => lhs; whnf
  rw [show decide (i < s.size) = true from decide_eq_true (by omega)]
  conv => lhs; whnf
  rw [wrap_byte, ev_l6In h, allAd_succ]
  conv => lhs; whnf
  change (match !isAd (byteAt s i) with | true => _ | false => _) = _
  cases isAd (byteAt s i)
  ·kernel_rfl
  ·conv => lhs; whnf
   rw [wrap_succ (by omega), textOk_loop' s hs m (i + 1) (by omega)]
   rfl
theorem ev_sTextOk (s : Str) (hs : s.size < 4611686018427387904) : W f_spec_TextOk [.str s] [] = some (.bool (textOk s), []) := by
 unfold textOk
 rw [h.call]; conv => lhs; whnf
 have e := textOk_loop' h s hs s.size 0 (by omega)
 rw [nc0] at e; rw [e]; clear e
 cases allAd s 0 s.size <;> rfl
theorem ev_isName (s : Str) : W f_impl_isName [.str s] [] = some (.bool (isName s), []) := by
 rw [h.call]; conv => lhs; whnf
 unfold isName seq
 cases s.toList == (⟨#[65]⟩ : ByteArray).toList
 ·conv => lhs; whnf
  cases s.toList == (⟨#[66]⟩ : ByteArray).toList
  ·conv => lhs; whnf
   cases s.toList == (⟨#[67]⟩ : ByteArray).toList <;> kernel_rfl
  ·kernel_rfl
 ·kernel_rfl
end
end Go.Gn

namespace Go.Gn
open Go
set_option maxRecDepth 100000
def fnd {α : Type} (p : α → Bool) : List α → Nat → Option Nat
 | [], _ => none
 | x :: xs, i => match p x with
  | true => some i
  | false => fnd p xs (i + 1)
def fndI (r : Option Nat) : Int := match r with
 | some i => i
 | none => -1
theorem drop_cons {α : Type} {xs : List α} {i : Nat} {x : α} (h : xs[i]? = some x) : xs.drop i = x :: xs.drop (i + 1) := by
 obtain ⟨hl, rfl⟩ := List.getElem?_eq_some_iff.1 h
 exact List.drop_eq_getElem_cons hl
theorem get_some {α : Type} {xs : List α} {i : Nat} (h : i < xs.length) : ∃ x, xs[i]? = some x := ⟨xs[i], List.getElem?_eq_getElem h⟩
section
variable {W : CallF} {L : LoopF} {E : EqF} {T : Prop → Bool} (h : IsK G W L E T)
include h
theorem ev_TextNext (p : Int) (hp : inR p 1 8 = true) : W f_impl_TextNext [.int .i64 p] [] = some (.int .i64 (textNext p), []) := by
 rw [h.call]; conv => lhs; whnf
 rw [ev_isSlot h]; conv => lhs; whnf
 change (match !(inR p 1 8) with | true => _ | false => _) = _
 rw [hp]
 conv => lhs; whnf
 simp only [inR, Bool.and_eq_true, decide_eq_true_eq] at hp
 have : IntKind.i64.wrap (p.tmod 8 + 1) = textNext p := by
  have := textNext_range hp.1
  exact wrap_id (by unfold textNext at this; omega) (by unfold textNext at this; omega)
 rw [this]
theorem ev_l1Next (p : Int) (hp : inR p 1 8 = true) : W f_spec_l1Next [.int .i64 p] [] = some (.int .i64 (textNext p), []) := by
 rw [h.call]; conv => lhs; whnf
 simp only [inR, Bool.and_eq_true, decide_eq_true_eq] at hp
 have : IntKind.i64.wrap (p.tmod 8 + 1) = textNext p := by
  have := textNext_range hp.1
  exact wrap_id (by unfold textNext at this; omega) (by unfold textNext at this; omega)
 rw [this]
omit h in
theorem place_step {s : Str} {i m : Nat} {acc : Int} (ha : allAd s i (m + 1) = true) (hi : i + (m + 1) ≤ 4) (h1 : 0 ≤ acc) (h2 : acc ≤ 100 * i) :
  IntKind.i64.wrap (acc + IntKind.i64.wrap (IntKind.i64.wrap ((i : Int) + 1) * IntKind.i64.wrap (IntKind.i64.wrap (IntKind.u8.wrap (byteAt s i - 97)) + 1))) = acc + ((i : Int) + 1) * (byteAt s i - 96) ∧ 0 ≤ acc + ((i : Int) + 1) * (byteAt s i - 96) ∧ acc + ((i : Int) + 1) * (byteAt s i - 96) ≤ 100 * (i + 1 : Nat) := by
 rw [allAd_succ, Bool.and_eq_true, isAd_iff] at ha
 obtain ⟨⟨h3, h4⟩, _⟩ := ha
 have e1 : IntKind.u8.wrap (byteAt s i - 97) = byteAt s i - 97 := by rw [IntKind.wrap_u8]; omega
 rw [e1, wrap_id (n := byteAt s i - 97) (by omega) (by omega), wrap_id (n := byteAt s i - 97 + 1) (by omega) (by omega), wrap_id (n := (i : Int) + 1) (by omega) (by omega)]
 have e2 : byteAt s i - 97 + 1 = byteAt s i - 96 := by omega
 rw [e2]
 have : i = 0 ∨ i = 1 ∨ i = 2 ∨ i = 3 := by omega
 have h6 : 0 ≤ ((i : Int) + 1) * (byteAt s i - 96) ∧ ((i : Int) + 1) * (byteAt s i - 96) ≤ 16 := by rcases this with rfl | rfl | rfl | rfl <;> omega
 rw [wrap_id (n := ((i : Int) + 1) * (byteAt s i - 96)) (by omega) (by omega), wrap_id (by omega) (by omega)]
 omega
theorem place_loop (s : Str) (hs : s.size ≤ 4) : ∀ m i acc, i + m = s.size → allAd s i m = true → 0 ≤ acc → acc ≤ 100 * (i : Int) → L (norm 0 cf207.live) (exitN 0 cf207.out (evCW W L G cf207 0 c207l0)) ⟨[(0, .str s), (3, .int .i64 acc), (9, .int .i64 s.size), (10, .int .i64 i)], []⟩ =
  some (.ext 0, ⟨[(2, .top), (3, .int .i64 (placeSum s i m acc))], []⟩)
 | 0, i, acc, hi, ha, h1, h2 => by
  rw [h.loop]
  conv => lhs; whnf
  rw [show decide ((i:Int) < (s.size : Int)) = false from decide_eq_false (by omega)]
  rfl
 | m + 1, i, acc, hi, ha, h1, h2 => by
  rw [h.loop]
  conv => lhs; whnf
  rw [show decide ((i:Int) < (s.size : Int)) = true from decide_eq_true (by omega)]
  conv => lhs; whnf
  rw [show decide (i < s.size) = true from decide_eq_true (by omega)]
  conv => lhs; whnf
  obtain ⟨e1, e2, e3⟩ := place_step ha (by omega) h1 h2
  rw [e1, wrap_succ (by omega), place_loop s hs m (i + 1) _ (by omega) (by rw [allAd_succ, Bool.and_eq_true] at ha; exact ha.2) e2 e3]
  rfl
omit h in
theorem place_fin {s : Str} (hs : textOk s = true) : IntKind.i64.wrap ((placeSum s 0 s.size 0).tmod 8 + 1) = textPlace s := by
 have := textPlace_range hs
 exact wrap_id (by unfold textPlace at this; omega) (by unfold textPlace at this; omega)
theorem ev_TextPlace (s : Str) (hs : textOk s = true) : W f_impl_TextPlace [.str s] [] = some (.int .i64 (textPlace s), []) := by
 have hs' := hs
 simp only [textOk, Bool.and_eq_true, decide_eq_true_eq] at hs'
 rw [h.call]; conv => lhs; whnf
 rw [ev_TextOk h s (by omega), hs]; conv => lhs; whnf
 have e := place_loop h s (by omega) s.size 0 0 (by omega) hs'.1 (by omega) (by omega)
 rw [nc0] at e; rw [e]; clear e
 conv => lhs; whnf
 rw [place_fin hs]
theorem place_loop' (s : Str) (hs : s.size ≤ 4) : ∀ m i acc, i + m = s.size → allAd s i m = true → 0 ≤ acc → acc ≤ 100 * (i : Int) → L (norm 0 cf233.live) (exitN 0 cf233.out (evCW W L G cf233 0 c233l0)) ⟨[(0, .str s), (3, .int .i64 acc), (4, .int .i64 i)], []⟩ =
  some (.ext 0, ⟨[(2, .top), (3, .int .i64 (placeSum s i m acc))], []⟩)
 | 0, i, acc, hi, ha, h1, h2 => by
  rw [h.loop]
  conv => lhs; whnf
  rw [show decide ((i:Int) < (s.size : Int)) = false from decide_eq_false (by omega)]
  rfl
 | m + 1, i, acc, hi, ha, h1, h2 => by
  rw [h.loop]
  conv => lhs; whnf
  rw [show decide ((i:Int) < (s.size : Int)) = true from decide_eq_true (by omega)]
  conv => lhs; whnf
  rw [show decide (i < s.size) = true from decide_eq_true (by omega)]
  conv => lhs; whnf
  obtain ⟨e1, e2, e3⟩ := place_step ha (by omega) h1 h2
  rw [e1, wrap_succ (by omega), place_loop' s hs m (i + 1) _ (by omega) (by rw [allAd_succ, Bool.and_eq_true] at ha; exact ha.2) e2 e3]
  rfl
theorem ev_l1Place (s : Str) (hs : textOk s = true) : W f_spec_l1Place [.str s] [] = some (.int .i64 (textPlace s), []) := by
 have hs' := hs
 simp only [textOk, Bool.and_eq_true, decide_eq_true_eq] at hs'
 rw [h.call]; conv => lhs; whnf
 have e := place_loop' h s (by omega) s.size 0 0 (by omega) hs'.1 (by omega) (by omega)
 rw [nc0] at e; rw [e]; clear e
 conv => lhs; whnf
 rw [place_fin hs]
theorem indexSlot_loop (xs : List SlotM) (hl : xs.length < 4611686018427387904) (f : Nat) (cf : CF) (ds : List D) (p : SlotM → Bool) (hG : G f = some cf) (hi : cf.inl = false) (hr : cf.byRef = [])
  (hp : ∀ x : SlotM, W f [.agg [.str x.text, .int .i64 x.uses], .ep .br ds 0] [] = some (.bool (p x), [])) : ∀ m i, i + m = xs.length → L (norm 0 cf212.live) (exitN 0 cf212.out (evCW W L G cf212 0 c212l0)) ⟨[(0, .sl .br (xs.map slotD)), (1, .fn f [.ep .br ds 0]), (7, .int .i64 ((xs.map slotD).length : Nat)), (8, .int .i64 i)], []⟩ =
  some (match fnd p (xs.drop i) i with | none => (.ext 0, ⟨[(4, .top)], []⟩) | some j => (.ret, ⟨[(4, .int .i64 j)], []⟩))
 | 0, i, hm => by
  rw [h.loop]
  conv => lhs; whnf
  rw [show decide ((i:Int) < ((xs.map slotD).length : Nat)) = false from decide_eq_false (by simp; omega)]
  rw [show xs.drop i = [] from List.drop_eq_nil_of_le (by omega)]
  rfl
 | m + 1, i, hm => by
  obtain ⟨x, hx⟩ := get_some (xs := xs) (i := i) (by omega)
  rw [h.loop]
  conv => lhs; whnf
  rw [show decide ((i:Int) < ((xs.map slotD).length : Nat)) = true from decide_eq_true (by simp; omega)]
  conv => lhs; whnf
  rw [map_get (f := slotD) hx]
  conv => lhs; whnf
  rw [hG]
  conv => lhs; whnf
  rw [hi]
  conv => lhs; whnf
  rw [hr]
  conv => lhs; whnf
  rw [hp x, drop_cons hx]
  conv => lhs; whnf
  change _ = some (match (match p x with | true => some i | false => fnd p (xs.drop (i + 1)) (i + 1)) with | none => _ | some j => _)
  cases p x
  ·conv => lhs; whnf
   rw [wrap_succ (by omega), indexSlot_loop xs hl f cf ds p hG hi hr hp m (i + 1) (by omega)]
  ·rfl
theorem ev_indexSlot (xs : List SlotM) (hl : xs.length < 4611686018427387904) (f : Nat) (cf : CF) (ds : List D) (p : SlotM → Bool) (hG : G f = some cf) (hi : cf.inl = false) (hr : cf.byRef = [])
  (hp : ∀ x : SlotM, W f [.agg [.str x.text, .int .i64 x.uses], .ep .br ds 0] [] = some (.bool (p x), [])) : W f_slices_IndexFunc_Slot [.sl .br (xs.map slotD), .fn f [.ep .br ds 0]] [] = some (.int .i64 (fndI (fnd p xs 0)), []) := by
 rw [h.call]; conv => lhs; whnf
 have e := indexSlot_loop h xs hl f cf ds p hG hi hr hp xs.length 0 (by omega)
 rw [nc0] at e; rw [e]; clear e
 rw [List.drop_zero]
 cases fnd p xs 0 <;> rfl
theorem ev_find_c1 (x : SlotM) (t : Str) : W f_impl_find_c1 [.agg [.str x.text, .int .i64 x.uses], .ep .br [.str t] 0] [] = some (.bool (seq x.text t), []) := by
 rw [h.call]; conv => lhs; whnf
 rfl
theorem ev_find (xs : List SlotM) (hl : xs.length < 4611686018427387904) (t : Str) : W f_impl_find [.sl .br (xs.map slotD), .str t] [] = some (.int .i64 (IntKind.i64.wrap (fndI (fnd (fun x => seq x.text t) xs 0) + 1)), []) := by
 rw [h.call]; conv => lhs; whnf
 rw [ev_indexSlot h xs hl _ cf220 _ (fun x => seq x.text t) rfl rfl rfl (fun x => ev_find_c1 h x t)]
 rfl
theorem ev_StoreOk_c1 (x y : SlotM) : W f_impl_StoreOk_c1 [.agg [.str x.text, .int .i64 x.uses], .ep .br (slotD y) 0] [] = some (.bool (seq x.text y.text), []) := by
 rw [h.call]; conv => lhs; whnf
 rfl
theorem ev_containsSlot (xs : List SlotM) (hl : xs.length < 4611686018427387904) (y : SlotM) : W f_slices_ContainsFunc_Slot [.sl .br (xs.map slotD), .fn f_impl_StoreOk_c1 [.ep .br (slotD y) 0]] [] = some (.bool (decide (fndI (fnd (fun x => seq x.text y.text) xs 0) ≥ 0)), []) := by
 rw [h.call]; conv => lhs; whnf
 rw [ev_indexSlot h xs hl _ cf192 _ (fun x => seq x.text y.text) rfl rfl rfl (fun x => ev_StoreOk_c1 h x y)]
 rfl
end
end Go.Gn

namespace Go.Gn
open Go
set_option maxRecDepth 100000
theorem set_map {α : Type} (f : α → List D) (xs : List α) (j : Nat) (y : α) : (xs.map f).set j (f y) = (xs.set j y).map f := by rw [List.map_set]
def SlotM.dec (x : SlotM) : SlotM := if x.uses - 1 = 0 then ⟨⟨#[]⟩, 0⟩ else ⟨x.text, x.uses - 1⟩
def SlotM.inc (x : SlotM) : SlotM := ⟨x.text, x.uses + 1⟩
def probe (xs : List SlotM) (t : Str) : Nat → Int → List SlotM × Int
 | 0, _ => (xs, 0)
 | m + 1, p => match xs[(p - 1).toNat]? with
  | some x => if x.uses = 0 then (xs.set (p - 1).toNat ⟨t, 1⟩, p) else probe xs t m (textNext p)
  | none => (xs, 0)
def putM (xs : List SlotM) (t : Str) : List SlotM × Int := match fnd (fun x => seq x.text t) xs 0 with
 | none => probe xs t 8 (textPlace t)
 | some j => match xs[j]? with
  | some x => if x.uses = 99 then (xs, 0) else (xs.set j x.inc, (j : Int) + 1)
  | none => (xs, 0)
theorem fnd_lt {α : Type} {p : α → Bool} : ∀ {xs : List α} {i j : Nat}, fnd p xs i = some j → i ≤ j ∧ j < i + xs.length ∧ ∃ x, xs[j - i]? = some x ∧ p x = true
 | [], i, j, h => by cases h
 | x :: xs, i, j, h => by
  simp only [fnd] at h
  split at h
  ·rename_i hp
   cases h
   exact ⟨Nat.le_refl _, by simp, x, by simp, hp⟩
  ·obtain ⟨h1, h2, y, h3, h4⟩ := fnd_lt h
   refine ⟨by omega, by simp; omega, y, ?_, h4⟩
   rw [show j - i = (j - (i + 1)) + 1 by omega]
   simpa using h3
section
variable {W : CallF} {L : LoopF} {E : EqF} {T : Prop → Bool} (h : IsK G W L E T)
include h
theorem ev_drop (xs : List SlotM) (j : Nat) (x : SlotM) (hx : xs[j]? = some x) (hj : j < 1000) (hu : -1000000 ≤ x.uses ∧ x.uses ≤ 1000000) : W f_impl_drop [.hw 0, .int .i64 ((j : Int) + 1)] [.row 2 0 2 (xs.map slotD)] = some (.tup [], [.row 2 0 2 ((xs.set j x.dec).map slotD)]) := by
 have hl := lt_of_get hx
 have hw : IntKind.i64.wrap ((j : Int) + 1 - 1) = (j : Int) := by rw [wrap_id (by omega) (by omega)]; omega
 rw [h.call]; conv => lhs; whnf
 rw [hw]; conv => lhs; whnf
 rw [show decide (j < (xs.map slotD).length) = true from decide_eq_true (by simpa using hl)]
 conv => lhs; whnf
 rw [map_get (f := slotD) hx]; conv => lhs; whnf
 rw [show decide (j < (xs.map slotD).length) = true from decide_eq_true (by simpa using hl)]
 conv => lhs; whnf
 rw [map_get (f := slotD) hx]; conv => lhs; whnf
 rw [wrap_id (n := x.uses - 1) (by omega) (by omega)]
 have es : (xs.map slotD).set j (splice (slotD x) (0 + 1) [D.int IntKind.i64 (x.uses - 1)]) = (xs.set j ⟨x.text, x.uses - 1⟩).map slotD := by rw [← set_map]; rfl
 have hx1 : (xs.set j ⟨x.text, x.uses - 1⟩)[j]? = some ⟨x.text, x.uses - 1⟩ := by simp [hl]
 rw [es, hw]; conv => lhs; whnf
 rw [show decide (j < ((xs.set j ⟨x.text, x.uses - 1⟩).map slotD).length) = true from decide_eq_true (by simpa using hl)]
 conv => lhs; whnf
 rw [map_get (f := slotD) hx1]; conv => lhs; whnf
 unfold SlotM.dec
 by_cases h0 : x.uses - 1 = 0
 ·rw [if_pos h0]
  have e0 : (x.uses - 1 == 0) = true := by simp [h0]
  change (match x.uses - 1 == 0 with | true => _ | false => _) = _
  rw [e0]; conv => lhs; whnf
  rw [hw]; conv => lhs; whnf
  rw [show decide (j < ((xs.set j ⟨x.text, x.uses - 1⟩).map slotD).length) = true from decide_eq_true (by simpa using hl)]
  conv => lhs; whnf
  rw [map_get (f := slotD) hx1]; conv => lhs; whnf
  have es2 : ((xs.set j ⟨x.text, x.uses - 1⟩).map slotD).set j (splice (slotD ⟨x.text, x.uses - 1⟩) 0 [D.str ⟨#[]⟩]) = (xs.set j ⟨⟨#[]⟩, 0⟩).map slotD := by
   rw [show splice (slotD ⟨x.text, x.uses - 1⟩) 0 [D.str ⟨#[]⟩] = slotD ⟨⟨#[]⟩, 0⟩ by rw [h0]; rfl, set_map, List.set_set]
  rw [es2]
 ·rw [if_neg h0]
  have e0 : (x.uses - 1 == 0) = false := by simp [h0]
  change (match x.uses - 1 == 0 with | true => _ | false => _) = _
  rw [e0]; rfl
theorem probe_loop (xs : List SlotM) (hx8 : xs.length = 8) (t : Str) : ∀ m i p, i + m = 8 → inR p 1 8 = true → L (norm 1 cf169.live) (exitN 1 cf169.out (evCW W L G cf169 1 c169l0)) ⟨[(0, .hw 0), (1, .str t), (5, .int .i64 p), (13, .int .i64 ((i : Nat) : Int))], [.row 2 0 2 (xs.map slotD)]⟩ =
  some (if (probe xs t m p).2 = 0 then (.ext 0, ⟨[(4, .top)], [.row 2 0 2 ((probe xs t m p).1.map slotD)]⟩) else (.ret, ⟨[(4, .int .i64 (probe xs t m p).2)], [.row 2 0 2 ((probe xs t m p).1.map slotD)]⟩))
 | 0, i, p, hi, hp => by
  rw [h.loop]
  conv => lhs; whnf
  rw [show decide (((i : Nat) : Int) < 8) = false from decide_eq_false (by omega)]
  rfl
 | m + 1, i, p, hi, hp => by
  have hp' := hp
  simp only [inR, Bool.and_eq_true, decide_eq_true_eq] at hp'
  obtain ⟨q, rfl⟩ : ∃ q : Nat, p = (q : Int) + 1 := ⟨(p - 1).toNat, by omega⟩
  have hw : IntKind.i64.wrap ((q : Int) + 1 - 1) = (q : Int) := by rw [wrap_id (by omega) (by omega)]; omega
  have hq : ((q : Int) + 1 - 1).toNat = q := by omega
  obtain ⟨x, hx⟩ := get_some (xs := xs) (i := q) (by omega)
  rw [h.loop]
  conv => lhs; whnf
  rw [show decide (((i : Nat) : Int) < 8) = true from decide_eq_true (by omega)]
  conv => lhs; whnf
  rw [hw]; conv => lhs; whnf
  rw [show decide (q < (xs.map slotD).length) = true from decide_eq_true (by simp; omega)]
  conv => lhs; whnf
  rw [map_get (f := slotD) hx]; conv => lhs; whnf
  simp only [probe, hq, hx]
  change (match x.uses == 0 with | true => _ | false => _) = _
  by_cases h0 : x.uses = 0
  ·simp only [if_pos h0]
   rw [if_neg (by omega)]
   rw [show (x.uses == 0) = true by simp [h0]]; conv => lhs; whnf
   rw [hw]; conv => lhs; whnf
   rw [show decide (q < (xs.map slotD).length) = true from decide_eq_true (by simp; omega)]
   conv => lhs; whnf
   rw [map_get (f := slotD) hx]; conv => lhs; whnf
   rw [show (xs.map slotD).set q (splice (slotD x) 0 [D.str t, D.int IntKind.i64 1]) = (xs.set q ⟨t, 1⟩).map slotD by rw [← set_map]; rfl]
  ·simp only [if_neg h0]
   rw [show (x.uses == 0) = false by simp [h0]]; conv => lhs; whnf
   rw [ev_TextNext h _ hp]; conv => lhs; whnf
   rw [wrap_succ (by omega), probe_loop xs hx8 t m (i + 1) _ (by omega) (by have := textNext_range hp'.1; simp [inR]; omega)]
theorem ev_put (xs : List SlotM) (hx8 : xs.length = 8) (hu : ∀ x ∈ xs, -1000000 ≤ x.uses ∧ x.uses ≤ 1000000) (t : Str) (ht : textOk t = true) : W f_impl_put [.hw 0, .str t] [.row 2 0 2 (xs.map slotD)] = some (.int .i64 (putM xs t).2, [.row 2 0 2 ((putM xs t).1.map slotD)]) := by
 have e := probe_loop h xs hx8 t 8 0 (textPlace t) (by omega) (by have := textPlace_range ht; simp [inR]; omega)
 rw [nc0] at e
 rw [h.call]; conv => lhs; whnf
 rw [ev_find h xs (by omega) t]; conv => lhs; whnf
 unfold putM
 cases hf : fnd (fun x => seq x.text t) xs 0 with
 | none =>
  rw [show IntKind.i64.wrap (fndI none + 1) = 0 from rfl]; conv => lhs; whnf
  rw [ev_TextPlace h t ht]; conv => lhs; whnf
  rw [e]
  simp only
  generalize probe xs t 8 (textPlace t) = r
  by_cases h0 : r.2 = 0
  ·rw [if_pos h0, h0]; rfl
  ·rw [if_neg h0]; rfl
 | some j =>
  clear e
  obtain ⟨_, hj, x, hx, _⟩ := fnd_lt hf
  rw [Nat.sub_zero] at hx
  have hw1 : IntKind.i64.wrap (fndI (some j) + 1) = (j : Int) + 1 := by rw [fndI, wrap_id (by omega) (by omega)]
  have hw : IntKind.i64.wrap ((j : Int) + 1 - 1) = (j : Int) := by rw [wrap_id (by omega) (by omega)]; omega
  have hux := hu x (List.mem_of_getElem? hx)
  have hd : decide (j < (xs.map slotD).length) = true := decide_eq_true (by simp; omega)
  rw [hw1]; conv => lhs; whnf
  rw [show ((j : Int) + 1 == 0) = false by simp; omega]; conv => lhs; whnf
  rw [hw]; conv => lhs; whnf
  rw [hd]; conv => lhs; whnf
  rw [map_get (f := slotD) hx]; conv => lhs; whnf
  simp only [hx]
  change (match x.uses == 99 with | true => _ | false => _) = _
  by_cases h0 : x.uses = 99
  ·rw [if_pos h0, show (x.uses == 99) = true by simp [h0]]; rfl
  ·rw [if_neg h0, show (x.uses == 99) = false by simp [h0]]; conv => lhs; whnf
   rw [hw]; conv => lhs; whnf
   rw [hd]; conv => lhs; whnf
   rw [map_get (f := slotD) hx]; conv => lhs; whnf
   rw [hd]; conv => lhs; whnf
   rw [map_get (f := slotD) hx]; conv => lhs; whnf
   rw [wrap_id (n := x.uses + 1) (by omega) (by omega), show (xs.map slotD).set j (splice (slotD x) (0 + 1) [D.int IntKind.i64 (x.uses + 1)]) = (xs.set j x.inc).map slotD by rw [← set_map]; rfl]
end
end Go.Gn

namespace Go.Gn
open Go
set_option maxRecDepth 100000
def inAll (lo hi : Int) (bs : List Int) : Bool := bs.all fun b => inR b lo hi
def volOk (v : VolM) : Bool := inAll 0 8 v.blocks && (isName v.name && inR v.blocks.length 1 6)
def cnt (bs : List Int) (p : Int) : Int := ((bs.filter fun b => b == p).length : Nat)
theorem inAll_cons (lo hi x : Int) (xs : List Int) : inAll lo hi (x :: xs) = (inR x lo hi && inAll lo hi xs) := rfl
theorem cnt_cons (x p : Int) (xs : List Int) : cnt (x :: xs) p = (if (x == p) = true then 1 else 0) + cnt xs p := by
 unfold cnt
 rw [List.filter_cons]
 split
 ·simp; omega
 ·simp
theorem cnt_range (bs : List Int) (p : Int) : 0 ≤ cnt bs p ∧ cnt bs p ≤ bs.length := by
 have := List.length_filter_le (fun b => b == p) bs
 unfold cnt; omega
section
variable {W : CallF} {L : LoopF} {E : EqF} {T : Prop → Bool} (h : IsK G W L E T)
include h
theorem volOk_loop (nm : Str) (bs : List Int) (hl : bs.length < 4611686018427387904) : ∀ m i, i + m = bs.length → L (norm 0 cf149.live) (exitN 0 cf149.out (evCW W L G cf149 0 c149l0)) ⟨[(1, .ptr 0 0), (6, .sl .br (bs.map intD)), (7, .int .i64 ((bs.map intD).length : Nat)), (8, .int .i64 (i : Nat))], [.box [.str nm, .sl .br (bs.map intD)]]⟩ =
  some (if inAll 0 8 (bs.drop i) then (.ext 0, ⟨[(1, .ptr 0 0), (2, .top)], [.box [.str nm, .sl .br (bs.map intD)]]⟩) else (.ret, ⟨[(1, .ptr 0 0), (2, .bool false)], [.box [.str nm, .sl .br (bs.map intD)]]⟩))
 | 0, i, hm => by
  rw [h.loop, List.drop_eq_nil_of_le (show bs.length ≤ i by omega)]
  repeat (conv=>lhs;whnf;arg 2;tactic=>first|exact g1)
  rfl
 | m + 1, i, hm => by
  obtain ⟨x, hx⟩ := get_some (xs := bs) (i := i) (by omega)
  rw [h.loop, drop_cons hx]
  repeat (conv=>lhs;whnf;arg 2;tactic=>first|exact g1|exact map_get hx|exact ev_within h _ _ _)
  conv => lhs; whnf
  rw [inAll_cons]
  cases hr : inR x 0 8
  ·rfl
  ·conv => lhs; whnf
   rw [wrap_succ (by omega), volOk_loop nm bs hl m (i + 1) (by omega)]
   rfl
theorem ev_VolOk (nm : Str) (bs : List Int) (hl : bs.length < 4611686018427387904) : W f_impl_VolOk [.agg [.str nm, .sl .br (bs.map intD)]] [] = some (.bool (volOk ⟨nm, bs⟩), []) := by
 have e := volOk_loop h nm bs hl bs.length 0 (by omega)
 rw [nc0, List.drop_zero] at e
 unfold volOk
 rw [h.call]
 conv => lhs; whnf
 rw [e]; clear e
 have hi : inR ((bs.map intD).length : Nat) 1 6 = inR bs.length 1 6 := by rw [List.length_map]
 simp only
 cases inAll 0 8 bs
 ·rfl
 ·conv => lhs; whnf
  rw [ev_isName h]
  cases isName nm
  ·rfl
  ·conv => lhs; whnf
   rw [ev_within h, hi]
   rfl
theorem uses_loop (bs : List Int) (hl : bs.length < 4611686018427387904) (p : Int) : ∀ (m i : Nat) (acc : Int), i + m = bs.length → 0 ≤ acc → acc ≤ i → L (norm 0 cf150.live) (exitN 0 cf150.out (evCW W L G cf150 0 c150l0)) ⟨[(1, .int .i64 p), (5, .int .i64 acc), (9, .sl .br (bs.map intD)), (10, .int .i64 ((bs.map intD).length : Nat)), (11, .int .i64 (i : Nat))], []⟩ =
  some (.ext 0, ⟨[(4, .top), (5, .int .i64 (acc + cnt (bs.drop i) p))], []⟩)
 | 0, i, acc, hm, h1, h2 => by
  rw [h.loop, List.drop_eq_nil_of_le (show bs.length ≤ i by omega)]
  repeat (conv=>lhs;whnf;arg 2;tactic=>first|exact g1)
  rw [show acc + cnt [] p = acc by simp [cnt]]
  rfl
 | m + 1, i, acc, hm, h1, h2 => by
  obtain ⟨x, hx⟩ := get_some (xs := bs) (i := i) (by omega)
  rw [h.loop, drop_cons hx, cnt_cons]
  repeat (conv=>lhs;whnf;arg 2;tactic=>first|exact g1|exact map_get hx)
  conv => lhs; whnf
  cases hr : x == p
  ·conv => lhs; whnf
   rw [wrap_succ (by omega), uses_loop bs hl p m (i + 1) acc (by omega) h1 (by omega), if_neg (by simp), Int.zero_add]
  ·conv => lhs; whnf
   rw [wrap_succ (by omega), wrap_id (n := acc + 1) (by omega) (by omega), uses_loop bs hl p m (i + 1) (acc + 1) (by omega) (by omega) (by omega), if_pos rfl, Int.add_assoc]
theorem ev_uses (nm : Str) (bs : List Int) (hl : bs.length < 4611686018427387904) (p : Int) : W f_impl_Vol_uses [.agg [.str nm, .sl .br (bs.map intD)], .int .i64 p] [] = some (.int .i64 (cnt bs p), []) := by
 have e := uses_loop h bs hl p bs.length 0 0 (by omega) (by omega) (by omega)
 rw [nc0, List.drop_zero, Int.zero_add] at e
 rw [h.call]
 conv => lhs; whnf
 rw [e]; clear e
 rfl
end
end Go.Gn

namespace Go.Gn
open Go
set_option maxRecDepth 100000
def noText : Str := ⟨#[]⟩
def slotOk (pre : List SlotM) (x : SlotM) : Bool := textOk x.text && (inR x.uses 0 99 && (!(!(seq x.text noText == (x.uses == 0))) && !(!(seq x.text noText) && decide (fndI (fnd (fun y : SlotM => seq y.text x.text) pre 0) ≥ 0))))
def storeOkL (xs : List SlotM) : Nat → Nat → Bool
 | 0, _ => true
 | m + 1, i => match xs[i]? with
  | some x => slotOk (xs.take i) x && storeOkL xs m (i + 1)
  | none => false
def storeOk (xs : List SlotM) : Bool := storeOkL xs xs.length 0 && ((xs.length : Int) == 8)
def StoreSz (xs : List SlotM) : Prop := xs.length < 4611686018427387904 ∧ ∀ x ∈ xs, x.text.size < 4611686018427387904
theorem view_take {α : Type} (f : α → List D) (xs : List α) (i : Nat) : view (xs.map f) 0 (i - 0) = (xs.take i).map f := by simp [view]
section
variable {W : CallF} {L : LoopF} {E : EqF} {T : Prop → Bool} (h : IsK G W L E T)
include h
theorem storeOk_loop (xs : List SlotM) (hs : StoreSz xs) : ∀ m i, i + m = xs.length → L (norm 0 cf148.live) (exitN 0 cf148.out (evCW W L G cf148 0 c148l0)) ⟨[(0, .sl .br (xs.map slotD)), (5, .sl .br (xs.map slotD)), (6, .int .i64 ((xs.map slotD).length : Nat)), (7, .int .i64 (i : Nat))], []⟩ =
  some (if storeOkL xs m i then (.ext 0, ⟨[(0, .sl .br (xs.map slotD)), (2, .top)], []⟩) else (.ret, ⟨[(0, .sl .br (xs.map slotD)), (2, .bool false)], []⟩))
 | 0, i, hm => by
  rw [h.loop]
  repeat (conv=>lhs;whnf;arg 2;tactic=>first|exact g1)
  rfl
 | m + 1, i, hm => by
  obtain ⟨x, hx⟩ := get_some (xs := xs) (i := i) (by omega)
  have hxs := hs.2 x (List.mem_of_getElem? hx)
  have hl := hs.1
  have hk : (xs.take i).length < 4611686018427387904 := by simp; omega
  have hc := ev_containsSlot h (xs.take i) hk x
  rw [← view_take] at hc
  rw [h.loop]
  simp only [storeOkL, hx]
  repeat (conv=>lhs;whnf;arg 2;tactic=>first|exact g1|exact map_get hx|exact ev_TextOk h _ hxs)
  unfold slotOk
  conv => lhs; whnf
  cases textOk x.text
  ·rfl
  ·repeat (conv=>lhs;whnf;arg 2;tactic=>first|exact ev_within h _ _ _)
   conv => lhs; whnf
   cases inR x.uses 0 99
   ·rfl
   ·cases hz : !(seq x.text noText == (x.uses == 0))
    ·cases hq : seq x.text noText
     ·cases hf : decide (fndI (fnd (fun y : SlotM => seq y.text x.text) (xs.take i) 0) ≥ 0)
      ·repeat (conv=>lhs;whnf;arg 2;tactic=>first|exact g1|exact hz|exact congrArg not hq|exact hc|exact hf)
       conv => lhs; whnf
       rw [wrap_succ (by omega), storeOk_loop xs hs m (i + 1) (by omega)]
       rfl
      ·repeat (conv=>lhs;whnf;arg 2;tactic=>first|exact g1|exact hz|exact congrArg not hq|exact hc|exact hf)
       rfl
     ·repeat (conv=>lhs;whnf;arg 2;tactic=>first|exact hz|exact congrArg not hq)
      conv => lhs; whnf
      rw [wrap_succ (by omega), storeOk_loop xs hs m (i + 1) (by omega)]
      rfl
    ·repeat (conv=>lhs;whnf;arg 2;tactic=>first|exact hz)
     rfl
theorem ev_StoreOk (xs : List SlotM) (hs : StoreSz xs) : W f_impl_StoreOk [.sl .br (xs.map slotD)] [] = some (.bool (storeOk xs), []) := by
 have e := storeOk_loop h xs hs xs.length 0 (by omega)
 rw [nc0] at e
 unfold storeOk
 rw [h.call]
 conv => lhs; whnf
 rw [e]; clear e
 have hi : (((xs.map slotD).length : Nat) : Int) = xs.length := by rw [List.length_map]
 cases storeOkL xs xs.length 0
 ·rfl
 ·conv => lhs; whnf
  rw [hi]
  rfl
end
end Go.Gn

namespace Go.Gn
open Go
set_option maxRecDepth 100000
set_option maxHeartbeats 8000000
def geq (a b : Str) : Bool := !(Op.bytesLess a.toList b.toList)
def volsOkL (vs : List VolM) : Nat → Nat → Bool
 | 0, _ => true
 | m + 1, i => match vs[i]? with
  | some v => volOk v && ((match i with | 0 => true | j + 1 => match vs[j]? with | some u => !(geq u.name v.name) | none => false) && volsOkL vs m (i + 1))
  | none => false
def sumU (p : Int) : List VolM → Int
 | [] => 0
 | v :: vs => cnt v.blocks p + sumU p vs
def usesOkL (xs : List SlotM) (vs : List VolM) : Nat → Nat → Bool
 | 0, _ => true
 | m + 1, i => match xs[i]? with
  | some x => (sumU ((i : Int) + 1) vs == x.uses) && usesOkL xs vs m (i + 1)
  | none => false
def poolOk (p : PoolM) : Bool := storeOk p.slots && (!(decide ((p.vols.length : Int) > 4)) && (volsOkL p.vols p.vols.length 0 && usesOkL p.slots p.vols 8 0))
def VolsSz (vs : List VolM) : Prop := vs.length < 4611686018427387904 ∧ ∀ v ∈ vs, v.blocks.length < 4611686018427387904
structure PoolSz (p : PoolM) : Prop where
 s : StoreSz p.slots
 v : VolsSz p.vols
abbrev boxP (p : PoolM) : Obj := .box [.sl .br (p.slots.map slotD), .sl .br (p.vols.map volD)]
theorem wrap_pred {j : Nat} (hj : j < 4611686018427387904) : IntKind.i64.wrap (((j + 1 : Nat) : Int) - 1) = (j : Int) := by
 rw [wrap_id (by omega) (by omega)]; omega
theorem sumU_range (p : Int) : ∀ (vs : List VolM) (n : Nat), (∀ v ∈ vs, v.blocks.length ≤ n) → 0 ≤ sumU p vs ∧ sumU p vs ≤ vs.length * n
 | [], n, _ => by simp [sumU]
 | v :: vs, n, h => by
  have h1 := cnt_range v.blocks p
  have h2 := h v (by simp)
  have h3 := sumU_range p vs n (fun u hu => h u (by simp [hu]))
  have e : ((v :: vs).length : Int) * n = n + vs.length * n := by rw [List.length_cons, Int.natCast_add, Int.add_mul]; omega
  simp only [sumU]
  rw [e]
  omega
section
variable {W : CallF} {L : LoopF} {E : EqF} {T : Prop → Bool} (h : IsK G W L E T)
include h
theorem vols_loop (p : PoolM) (hs : VolsSz p.vols) : ∀ m i, i + m = p.vols.length → L (norm 0 cf82.live) (exitN 0 cf82.out (evCW W L G cf82 0 c82l2)) ⟨[(1, .ptr 0 0), (5, .un), (6, .un), (20, .sl .br (p.vols.map volD)), (21, .int .i64 ((p.vols.map volD).length : Nat)), (22, .int .i64 (i : Nat)), (52, .un), (53, .un), (54, .un)], [boxP p]⟩ =
  some (if volsOkL p.vols m i then (.ext 0, ⟨[(1, .ptr 0 0), (2, .top), (5, .un), (6, .un)], [boxP p]⟩) else (.ret, ⟨[(1, .ptr 0 0), (2, .bool false), (5, .un), (6, .un)], [boxP p]⟩))
 | 0, i, hm => by
  rw [h.loop]
  repeat (conv=>lhs;whnf;arg 2;tactic=>first|exact g1)
  rfl
 | m + 1, i, hm => by
  obtain ⟨v, hv⟩ := get_some (xs := p.vols) (i := i) (by omega)
  have hvs := hs.2 v (List.mem_of_getElem? hv)
  have hl := hs.1
  rw [h.loop]
  simp only [volsOkL, hv]
  repeat (conv=>lhs;whnf;arg 2;tactic=>first|exact g1|exact map_get hv|exact ev_VolOk h _ _ hvs)
  conv => lhs; whnf
  have ev : (⟨v.name, v.blocks⟩ : VolM) = v := rfl
  rw [ev]
  cases hvo : volOk v
  ·rfl
  ·cases i with
   | zero =>
    conv => lhs; whnf
    rw [wrap_succ (by omega), vols_loop p hs m (0 + 1) (by omega)]
    rfl
   | succ j =>
    obtain ⟨u, hu⟩ := get_some (xs := p.vols) (i := j) (by omega)
    simp only [hu]
    cases hg : geq u.name v.name
    ·repeat (conv=>lhs;whnf;arg 2;tactic=>first|exact g1|exact wrap_pred (by omega)|exact map_get hu|exact hg)
     conv => lhs; whnf
     rw [wrap_succ (by omega), vols_loop p hs m (j + 1 + 1) (by omega)]
     rfl
    ·repeat (conv=>lhs;whnf;arg 2;tactic=>first|exact g1|exact wrap_pred (by omega)|exact map_get hu|exact hg)
     rfl
theorem sum_loop (p : PoolM) (n : Nat) (hn : ∀ v ∈ p.vols, v.blocks.length ≤ 6) (hl : p.vols.length ≤ 4) (k : Nat) : ∀ (m i : Nat) (acc : Int), i + m = p.vols.length → 0 ≤ acc → acc ≤ i * 6 → L (norm 0 cf82.live) (exitN 0 cf82.out (evCW W L G cf82 0 c82l0)) ⟨[(1, .ptr 0 0), (5, .int .i64 ((k : Nat) + 1)), (6, .int .i64 acc), (20, .top), (21, .top), (22, .top), (52, .sl .br (p.vols.map volD)), (53, .int .i64 ((p.vols.map volD).length : Nat)), (54, .int .i64 (i : Nat))], [boxP p]⟩ =
  some (.ext 4, ⟨[(1, .ptr 0 0), (2, .top), (5, .int .i64 ((k : Nat) + 1)), (6, .int .i64 (acc + sumU ((k : Int) + 1) (p.vols.drop i)))], [boxP p]⟩)
 | 0, i, acc, hm, h1, h2 => by
  rw [h.loop, List.drop_eq_nil_of_le (show p.vols.length ≤ i by omega)]
  repeat (conv=>lhs;whnf;arg 2;tactic=>first|exact g1)
  rw [show acc + sumU ((k : Int) + 1) [] = acc by simp [sumU]]
  rfl
 | m + 1, i, acc, hm, h1, h2 => by
  obtain ⟨v, hv⟩ := get_some (xs := p.vols) (i := i) (by omega)
  have hvs := hn v (List.mem_of_getElem? hv)
  have hc := cnt_range v.blocks ((k : Int) + 1)
  rw [h.loop, drop_cons hv]
  repeat (conv=>lhs;whnf;arg 2;tactic=>first|exact g1|exact map_get hv|exact ev_uses h _ _ (by omega) _)
  conv => lhs; whnf
  rw [wrap_succ (by omega), wrap_id (n := acc + cnt v.blocks ((k : Int) + 1)) (by omega) (by omega), sum_loop p n hn hl k m (i + 1) (acc + cnt v.blocks ((k : Int) + 1)) (by omega) (by omega) (by omega)]
  rw [sumU, Int.add_assoc]
theorem uses_loop2 (p : PoolM) (h8 : p.slots.length = 8) (hn : ∀ v ∈ p.vols, v.blocks.length ≤ 6) (hl : p.vols.length ≤ 4) : ∀ (m i : Nat) (a6 : AV), (a6 = .un ∨ ∃ k, a6 = .int .i64 k) → i + m = 8 → ∃ b5 b6, L (norm 0 cf82.live) (exitN 0 cf82.out (evCW W L G cf82 0 c82l1)) ⟨[(1, .ptr 0 0), (5, .int .i64 ((i : Nat) + 1)), (6, a6), (20, .top), (21, .top), (22, .top), (52, .top), (53, .top), (54, .top)], [boxP p]⟩ =
  some (if usesOkL p.slots p.vols m i then (.ext 2, ⟨[(1, .ptr 0 0), (2, .top), (5, b5), (6, b6)], [boxP p]⟩) else (.ret, ⟨[(1, .ptr 0 0), (2, .bool false), (5, b5), (6, b6)], [boxP p]⟩))
 | 0, i, a6, ha, hm => by
  refine ⟨.int .i64 ((i : Nat) + 1), a6, ?_⟩
  rw [h.loop]
  rcases ha with rfl | ⟨k, rfl⟩
  ·repeat (conv=>lhs;whnf;arg 2;tactic=>first|exact g1)
   rfl
  ·repeat (conv=>lhs;whnf;arg 2;tactic=>first|exact g1)
   rfl
 | m + 1, i, a6, ha, hm => by
  obtain ⟨x, hx⟩ := get_some (xs := p.slots) (i := i) (by omega)
  have e := sum_loop h p 0 hn hl i p.vols.length 0 0 (by omega) (by omega) (by omega)
  rw [nc0, List.drop_zero, Int.zero_add] at e
  rw [h.loop]
  simp only [usesOkL, hx]
  rcases ha with rfl | ⟨k, rfl⟩
  all_goals
   cases hu : (sumU ((i : Int) + 1) p.vols == x.uses)
   ·refine ⟨.int .i64 ((i : Nat) + 1), .int .i64 (sumU ((i : Int) + 1) p.vols), ?_⟩
    repeat (conv=>lhs;whnf;arg 2;tactic=>first|exact g1|exact e|exact map_get hx|exact congrArg not hu|exact g2)
    rfl
   ·obtain ⟨b5, b6, ih⟩ := uses_loop2 p h8 hn hl m (i + 1) (.int .i64 (sumU ((i : Int) + 1) p.vols)) (.inr ⟨_, rfl⟩) (by omega)
    refine ⟨b5, b6, ?_⟩
    repeat (conv=>lhs;whnf;arg 2;tactic=>first|exact g1|exact e|exact map_get hx|exact congrArg not hu|exact g2)
    conv => lhs; whnf
    rw [wrap_id (n := (i : Int) + 1 + 1) (by omega) (by omega)]
    exact ih
omit h in
theorem volsOkL_len {vs : List VolM} : ∀ {m i : Nat}, volsOkL vs m i = true → ∀ j, i ≤ j → j < i + m → ∀ v, vs[j]? = some v → volOk v = true
 | 0, i, _, j, h1, h2, v, hv => by omega
 | m + 1, i, hk, j, h1, h2, v, hv => by
  simp only [volsOkL] at hk
  split at hk
  ·rename_i u hu
   simp only [Bool.and_eq_true] at hk
   by_cases hij : j = i
   ·subst hij; rw [hu] at hv; cases hv; exact hk.1
   ·exact volsOkL_len hk.2.2 j (by omega) (by omega) v hv
  ·cases hk
omit h in
theorem volOk_len {v : VolM} (hv : volOk v = true) : 1 ≤ v.blocks.length ∧ v.blocks.length ≤ 6 := by
 simp only [volOk, inR, Bool.and_eq_true, decide_eq_true_eq] at hv
 omega
theorem ev_PoolOk (p : PoolM) (hs : PoolSz p) : W f_impl_PoolOk [poolA p] [] = some (.bool (poolOk p), []) := by
 unfold poolOk
 have e1 := vols_loop h p hs.v p.vols.length 0 (by omega)
 rw [nc0] at e1
 rw [h.call]
 repeat (conv=>lhs;whnf;arg 2;tactic=>first|exact ev_StoreOk h _ hs.s)
 conv => lhs; whnf
 cases hso : storeOk p.slots
 ·rfl
 ·cases hl : decide ((p.vols.length : Int) > 4)
  ·have hlen : decide (((p.vols.map volD).length : Int) > 4) = false := by rw [List.length_map]; exact hl
   cases hv : volsOkL p.vols p.vols.length 0
   ·rw [hv] at e1
    repeat (conv=>lhs;whnf;arg 2;tactic=>first|exact hlen|exact e1)
    rfl
   ·rw [hv] at e1
    simp only [decide_eq_false_iff_not] at hl
    simp only [storeOk, Bool.and_eq_true, beq_iff_eq] at hso
    obtain ⟨b5, b6, e2⟩ := uses_loop2 h p (by omega) (fun v hm => by
     obtain ⟨j, hj⟩ := List.getElem?_of_mem hm
     exact (volOk_len (volsOkL_len hv j (by omega) (by have := lt_of_get hj; omega) v hj)).2) (by omega) 8 0 .un (.inl rfl) (by omega)
    rw [nc0, Int.zero_add] at e2
    repeat (conv=>lhs;whnf;arg 2;tactic=>first|exact g1|exact e1|exact e2)
    conv => lhs; whnf
    simp only
    cases usesOkL p.slots p.vols 8 0 <;> rfl
  ·have hlen : decide (((p.vols.map volD).length : Int) > 4) = true := by rw [List.length_map]; exact hl
   repeat (conv=>lhs;whnf;arg 2;tactic=>first|exact hlen)
   rfl
end
end Go.Gn

namespace Go.Gn
open Go
set_option maxRecDepth 100000
theorem set_same {α : Type} (f : α → List D) {xs : List α} {i : Nat} {v : α} (hv : xs[i]? = some v) : (xs.map f).set i (f v) = xs.map f := by
 rw [set_map]
 congr 1
 apply List.ext_getElem?
 intro j
 rw [List.getElem?_set]
 split
 ·rename_i hj
  subst hj
  obtain ⟨h1, h2⟩ := List.getElem?_eq_some_iff.1 hv
  simp [h1, h2]
 ·rfl
theorem scrub_map {α : Type} (f : α → List D) (hf : ∀ a, (f a).map D.scrub = f a) (xs : List α) : cloneD .br (xs.map f) = xs.map f := by
 unfold cloneD
 rw [List.map_map]
 exact List.map_congr_left fun a _ => hf a
def volIx (vs : List VolM) (n : Str) : Option Nat := fnd (fun v : VolM => seq v.name n) vs 0
def poolDs (p : PoolM) : List D := [.sl (p.slots.map slotD), .sl (p.vols.map volD)]
section
variable {W : CallF} {L : LoopF} {E : EqF} {T : Prop → Bool} (h : IsK G W L E T)
include h
omit h in
theorem bodyX {f : Nat} {cf : CF} {g : List AV → List Obj → Option (AV × List Obj)} (hG : G f = some cf) (hx : cf.ext = some g) (hi : cf.inl = false) (args : List AV) (os : List Obj) : bodyK W L E T G f args os = g args os := by
 unfold bodyK
 simp only [hG, hx, hi]
theorem ev_cloneOp (xs : List OpM) (hl : xs.length * 64 ≤ 140737488355328) : W f_slices_Clone_Op [.sl .br (xs.map opD)] [] = some (.hw 0, [.row 5 0 5 (xs.map opD)]) := by
 rw [h.call, bodyX rfl (cf := cf156) (g := cloneX 5 64 5) rfl rfl, cloneX, if_pos ⟨szOk_map opD 5 (fun _ => rfl) xs, by rw [List.length_map]; exact hl⟩, scrub_map opD (fun _ => rfl)]
theorem ev_cloneSlot (xs : List SlotM) (hl : xs.length * 24 ≤ 140737488355328) : W f_slices_Clone_Slot [.sl .br (xs.map slotD)] [] = some (.hw 0, [.row 2 0 2 (xs.map slotD)]) := by
 rw [h.call, bodyX rfl (cf := cf193) (g := cloneX 2 24 2) rfl rfl, cloneX, if_pos ⟨szOk_map slotD 2 (fun _ => rfl) xs, by rw [List.length_map]; exact hl⟩, scrub_map slotD (fun _ => rfl)]
theorem ev_cloneInt (xs : List Int) (hl : xs.length * 8 ≤ 140737488355328) : W f_slices_Clone_int [.sl .br (xs.map intD)] [] = some (.hw 0, [.row 1 0 1 (xs.map intD)]) := by
 rw [h.call, bodyX rfl (cf := cf171) (g := cloneX 1 8 1) rfl rfl, cloneX, if_pos ⟨szOk_map intD 1 (fun _ => rfl) xs, by rw [List.length_map]; exact hl⟩, scrub_map intD (fun _ => rfl)]
theorem ev_cloneVol (xs : List VolM) (hl : xs.length * 40 ≤ 140737488355328) : W f_slices_Clone_Vol [.sl .sh (xs.map volD)] [] = some (.hw 0, [.row 2 0 1 (xs.map volD)]) := by
 rw [h.call, bodyX rfl (cf := cf194) (g := cloneX 2 40 1) rfl rfl, cloneX, if_pos ⟨szOk_map volD 2 (fun _ => rfl) xs, by rw [List.length_map]; exact hl⟩]
 rfl
theorem indexVol_loop (xs : List VolM) (hl : xs.length < 4611686018427387904) (f : Nat) (cf : CF) (ds : List D) (p : VolM → Bool) (hG : G f = some cf) (hi : cf.inl = false) (hr : cf.byRef = [])
  (hp : ∀ x : VolM, W f [.agg [.str x.name, .sl .br (x.blocks.map intD)], .ep .br ds 0] [] = some (.bool (p x), [])) : ∀ m i, i + m = xs.length → L (norm 0 cf189.live) (exitN 0 cf189.out (evCW W L G cf189 0 c189l0)) ⟨[(0, .sl .br (xs.map volD)), (1, .fn f [.ep .br ds 0]), (7, .int .i64 ((xs.map volD).length : Nat)), (8, .int .i64 i)], []⟩ =
  some (match fnd p (xs.drop i) i with | none => (.ext 0, ⟨[(4, .top)], []⟩) | some j => (.ret, ⟨[(4, .int .i64 j)], []⟩))
 | 0, i, hm => by
  rw [h.loop, List.drop_eq_nil_of_le (show xs.length ≤ i by omega)]
  repeat (conv=>lhs;whnf;arg 2;tactic=>first|exact g1)
  rfl
 | m + 1, i, hm => by
  obtain ⟨x, hx⟩ := get_some (xs := xs) (i := i) (by omega)
  rw [h.loop, drop_cons hx]
  repeat (conv=>lhs;whnf;arg 2;tactic=>first|exact g1|exact map_get hx|exact hG|exact hi)
  conv => lhs; whnf
  rw [hr]
  repeat (conv=>lhs;whnf;arg 2;tactic=>first|exact hp x)
  conv => lhs; whnf
  simp only [fnd]
  cases p x
  ·conv => lhs; whnf
   rw [wrap_succ (by omega), indexVol_loop xs hl f cf ds p hG hi hr hp m (i + 1) (by omega)]
  ·rfl
theorem ev_indexVol (xs : List VolM) (hl : xs.length < 4611686018427387904) (f : Nat) (cf : CF) (ds : List D) (p : VolM → Bool) (hG : G f = some cf) (hi : cf.inl = false) (hr : cf.byRef = [])
  (hp : ∀ x : VolM, W f [.agg [.str x.name, .sl .br (x.blocks.map intD)], .ep .br ds 0] [] = some (.bool (p x), [])) : W f_slices_IndexFunc_Vol [.sl .br (xs.map volD), .fn f [.ep .br ds 0]] [] = some (.int .i64 (fndI (fnd p xs 0)), []) := by
 rw [h.call]; conv => lhs; whnf
 have e := indexVol_loop h xs hl f cf ds p hG hi hr hp xs.length 0 (by omega)
 rw [nc0] at e; rw [e]; clear e
 rw [List.drop_zero]
 cases fnd p xs 0 <;> rfl
theorem ev_vol_c1 (x : VolM) (t : Str) : W f_impl_Pool_vol_c1 [.agg [.str x.name, .sl .br (x.blocks.map intD)], .ep .br [.str t] 0] [] = some (.bool (seq x.name t), []) := by
 rw [h.call]; conv => lhs; whnf
 rfl
theorem ev_vol (p : PoolM) (hl : p.vols.length < 4611686018427387904) (n : Str) : W f_impl_Pool_vol [poolA p, .str n] [] = some (.int .i64 (fndI (volIx p.vols n)), []) := by
 rw [h.call]; conv => lhs; whnf
 rw [ev_indexVol h p.vols hl _ cf190 _ (fun v => seq v.name n) rfl rfl rfl (fun x => ev_vol_c1 h x n)]
 rfl
theorem clone_loop (p : PoolM) (hs : VolsSz p.vols) (hb : ∀ v ∈ p.vols, v.blocks.length * 8 ≤ 140737488355328) : ∀ m i, i + m = p.vols.length → L (norm 0 cf152.live) (exitN 0 cf152.out (evCW W L G cf152 0 c152l0)) ⟨[(2, .ptr 0 0), (3, .ptr 1 0), (14, .int .i64 ((p.vols.map volD).length : Nat)), (15, .int .i64 (i : Nat))], [.box [.nils, .nils], .box [.hw 2, .hw 3], .row 2 0 2 (p.slots.map slotD), .row 2 i 1 (p.vols.map volD)]⟩ =
  some (.ext 0, ⟨[(2, .ptr 0 0), (3, .ptr 1 0)], [.box [.nils, .nils], .box [.hw 2, .hw 3], .row 2 0 2 (p.slots.map slotD), .row 2 p.vols.length 1 (p.vols.map volD)]⟩)
 | 0, i, hm => by
  have : i = p.vols.length := by omega
  subst this
  rw [h.loop]
  repeat (conv=>lhs;whnf;arg 2;tactic=>first|exact g1)
  rfl
 | m + 1, i, hm => by
  obtain ⟨v, hv⟩ := get_some (xs := p.vols) (i := i) (by omega)
  have hvb := hb v (List.mem_of_getElem? hv)
  have hl := hs.1
  rw [h.loop]
  repeat (conv=>lhs;whnf;arg 2;tactic=>first|exact g1|exact map_get hv|exact ev_cloneInt h _ hvb|exact g2)
  conv => lhs; whnf
  rw [wrap_succ (by omega)]
  have e1 : (volD v).set 1 (.sl (v.blocks.map intD)) = volD v := rfl
  rw [e1, set_same volD hv, clone_loop p hs hb m (i + 1) (by omega)]
omit h in
theorem flat_slots (k : Nat) (xs : List SlotM) : (Obj.row 2 k 2 (xs.map slotD)).flat = true := by
 simp only [Obj.flat, Bool.or_eq_true, List.all_eq_true]
 right
 intro el hel d hd
 obtain ⟨x, _, rfl⟩ := List.mem_map.1 hel
 simp [slotD] at hd
 rcases hd with rfl | rfl <;> rfl
omit h in
theorem flat_vols (xs : List VolM) : (Obj.row 2 xs.length 1 (xs.map volD)).flat = true := by
 simp only [Obj.flat, rowFlat, Bool.or_eq_true, Bool.and_eq_true, Nat.ble_eq, List.length_map]
 left
 refine ⟨Nat.le_refl _, List.all_eq_true.2 fun el hel => ?_⟩
 obtain ⟨x, _, rfl⟩ := List.mem_map.1 hel
 simp only [volD, Bool.and_eq_true]
 refine ⟨rfl, ?_⟩
 show D.flatN (.sl (x.blocks.map intD)) = true
 simp only [D.flatN, List.all_eq_true]
 intro el hel d hd
 obtain ⟨y, _, rfl⟩ := List.mem_map.1 hel
 simp [intD] at hd
 subst hd; rfl
theorem ev_Pool_clone (p : PoolM) (hs : VolsSz p.vols) (h1 : p.slots.length * 24 ≤ 140737488355328) (h2 : p.vols.length * 40 ≤ 140737488355328) (hb : ∀ v ∈ p.vols, v.blocks.length * 8 ≤ 140737488355328) :
  W f_impl_Pool_clone [poolA p] [] = some (.agg [.hw 0, .hw 1], [.row 2 0 2 (p.slots.map slotD), .row 2 p.vols.length 1 (p.vols.map volD)]) := by
 have e := clone_loop h p hs hb p.vols.length 0 (by omega)
 rw [nc0] at e
 have hf : (!cf152.demR && (AV.agg [.hw 0, .hw 1]).flat && [Obj.row 2 0 2 (p.slots.map slotD), Obj.row 2 p.vols.length 1 (p.vols.map volD)].all Obj.flat) = true := by
  simp only [List.all_cons, List.all_nil, flat_slots, flat_vols]
  rfl
 rw [h.call]
 repeat (conv=>lhs;whnf;arg 2;tactic=>first|exact ev_cloneSlot h _ h1|exact ev_cloneVol h _ h2|exact e|exact hf|exact g2)
end
end Go.Gn

namespace Go.Gn
open Go
set_option maxRecDepth 100000
def okK (o : OpM) : Bool := if o.kind = 1 then inR o.n 1 6 else if o.kind = 2 then inR o.n 0 5 && textOk o.text else if o.kind = 3 then isName o.to else if o.kind = 4 then true else false
def want (o : OpM) : OpM := if o.kind = 1 then ⟨o.kind, o.name, noText, o.n, noText⟩ else if o.kind = 2 then ⟨o.kind, o.name, noText, o.n, o.text⟩ else if o.kind = 3 then ⟨o.kind, o.name, o.to, 0, noText⟩ else ⟨o.kind, o.name, noText, 0, noText⟩
def opOk (o : OpM) : Bool := okK o && (isName o.name && opEq o (want o))
section
variable {W : CallF} {L : LoopF} {E : EqF} {T : Prop → Bool} (h : IsK G W L E T)
include h
theorem ev_OpOk (o : OpM) (hs : o.Sz) : W f_impl_OpOk [.agg (opC o)] [] = some (.bool (opOk o), []) := by
 unfold opOk okK want
 rw [h.call]
 have n1 : ∀ {a b : Int}, ¬ a = b → (a == b) = false := fun hab => by simp [hab]
 by_cases k1 : o.kind = 1
 ·simp only [if_pos k1]
  have e1 : (o.kind == 1) = true := by simp [k1]
  cases hr : inR o.n 1 6
  ·repeat (conv=>lhs;whnf;arg 2;tactic=>first|exact g1|exact ev_within h _ _ _|exact hr)
   rfl
  ·cases hn : isName o.name
   ·repeat (conv=>lhs;whnf;arg 2;tactic=>first|exact g1|exact ev_within h _ _ _|exact hr|exact ev_isName h _|exact hn)
    rfl
   ·repeat (conv=>lhs;whnf;arg 2;tactic=>first|exact g1|exact ev_within h _ _ _|exact hr|exact ev_isName h _|exact hn|exact E_op h o ⟨o.kind, o.name, noText, o.n, noText⟩)
    rfl
 ·simp only [if_neg k1]
  have e1 := n1 k1
  by_cases k2 : o.kind = 2
  ·simp only [if_pos k2]
   have e2 : (o.kind == 2) = true := by simp [k2]
   cases hr : inR o.n 0 5
   ·repeat (conv=>lhs;whnf;arg 2;tactic=>first|exact g1|exact ev_within h _ _ _|exact hr|exact g2)
    rfl
   ·cases ht : textOk o.text
    ·repeat (conv=>lhs;whnf;arg 2;tactic=>first|exact g1|exact ev_within h _ _ _|exact hr|exact ev_TextOk h _ hs.2.2|exact ht|exact g2)
     rfl
    ·cases hn : isName o.name
     ·repeat (conv=>lhs;whnf;arg 2;tactic=>first|exact g1|exact ev_within h _ _ _|exact hr|exact ev_TextOk h _ hs.2.2|exact ht|exact ev_isName h _|exact hn|exact g2)
      rfl
     ·repeat (conv=>lhs;whnf;arg 2;tactic=>first|exact g1|exact ev_within h _ _ _|exact hr|exact ev_TextOk h _ hs.2.2|exact ht|exact ev_isName h _|exact hn|exact E_op h o ⟨o.kind, o.name, noText, o.n, o.text⟩|exact g2)
      rfl
  ·simp only [if_neg k2]
   have e2 := n1 k2
   by_cases k3 : o.kind = 3
   ·simp only [if_pos k3]
    have e3 : (o.kind == 3) = true := by simp [k3]
    cases hr : isName o.to
    ·repeat (conv=>lhs;whnf;arg 2;tactic=>first|exact g1|exact ev_isName h o.to|exact hr)
     rfl
    ·cases hn : isName o.name
     ·repeat (conv=>lhs;whnf;arg 2;tactic=>first|exact g1|exact ev_isName h _|exact hr|exact hn)
      rfl
     ·repeat (conv=>lhs;whnf;arg 2;tactic=>first|exact g1|exact ev_isName h _|exact hr|exact hn|exact E_op h o ⟨o.kind, o.name, o.to, 0, noText⟩)
      rfl
   ·simp only [if_neg k3]
    have e3 := n1 k3
    by_cases k4 : o.kind = 4
    ·simp only [if_pos k4]
     have e4 : (o.kind == 4) = true := by simp [k4]
     cases hn : isName o.name
     ·repeat (conv=>lhs;whnf;arg 2;tactic=>first|exact g1|exact ev_isName h _|exact hn)
      rfl
     ·repeat (conv=>lhs;whnf;arg 2;tactic=>first|exact g1|exact ev_isName h _|exact hn|exact E_op h o ⟨o.kind, o.name, noText, 0, noText⟩)
      rfl
    ·simp only [if_neg k4]
     have e4 := n1 k4
     repeat (conv=>lhs;whnf;arg 2;tactic=>first|exact g1)
     rfl
end
end Go.Gn

namespace Go.Gn
open Go
set_option maxRecDepth 100000
def bs (vs : List VolM) (n : Str) : Nat → Nat → Nat → Nat
 | 0, i, _ => i
 | f + 1, i, j => if i < j then (match vs[(i + j) / 2]? with
   | some v => if cmpStr v.name n < 0 then bs vs n f ((i + j) / 2 + 1) j else bs vs n f i ((i + j) / 2)
   | none => i) else i
def insIx (vs : List VolM) (n : Str) : Nat := bs vs n vs.length 0 vs.length
def insV (vs : List VolM) (v : VolM) : List VolM := vs.take (insIx vs v.name) ++ [v] ++ vs.drop (insIx vs v.name)
theorem bs_le (vs : List VolM) (n : Str) : ∀ f i j, i ≤ j → bs vs n f i j ≤ j
 | 0, i, j, h => h
 | f + 1, i, j, h => by
  simp only [bs]
  split
  ·split
   ·split
    ·exact bs_le vs n f _ j (by omega)
    ·have := bs_le vs n f i ((i + j) / 2) (by omega); omega
   ·omega
  ·omega
theorem half {i j : Nat} (hh : i + j < 4611686018427387904) : IntKind.i64.wrap ((IntKind.u64.wrap (IntKind.i64.wrap ((i : Int) + j))).fdiv (2 ^ (Nat.min (1 : Int).toNat IntKind.u64.bits))) = (((i + j) / 2 : Nat) : Int) := by
 rw [wrap_id (n := (i : Int) + j) (by omega) (by omega)]
 have e1 : IntKind.u64.wrap ((i : Int) + j) = (i : Int) + j := by rw [IntKind.wrap_u64]; omega
 rw [e1]
 have e2 : (2 : Int) ^ (Nat.min (1 : Int).toNat IntKind.u64.bits) = 2 := rfl
 rw [e2, Int.fdiv_eq_ediv_of_nonneg _ (by omega)]
 rw [wrap_id (by omega) (by omega)]
 omega
section
variable {W : CallF} {L : LoopF} {E : EqF} {T : Prop → Bool} (h : IsK G W L E T)
include h
theorem ev_compare (a b : Str) : W f_strings_Compare [.str a, .str b] [] = some (.int .i64 (cmpStr a b), []) := by
 rw [h.call, bodyX rfl (cf := cf204) (g := compareX) rfl rfl, compareX]
theorem ev_insert_c1 (v : VolM) (n : Str) : W f_impl_Pool_insert_c1 [.agg [.str v.name, .sl .br (v.blocks.map intD)], .str n] [] = some (.int .i64 (cmpStr v.name n), []) := by
 rw [h.call]
 repeat (conv=>lhs;whnf;arg 2;tactic=>first|exact ev_compare h _ _)
 rfl
theorem bs_loop (vs : List VolM) (hl : vs.length < 1000000) (n : Str) : ∀ f i j, j - i ≤ f → i ≤ j → j ≤ vs.length → L (norm 0 cf202.live) (exitN 0 cf202.out (evCW W L G cf202 0 c202l0)) ⟨[(0, .sl .br (vs.map volD)), (1, .str n), (2, .fn f_impl_Pool_insert_c1 []), (8, .int .i64 ((vs.map volD).length : Nat)), (9, .int .i64 (i : Nat)), (10, .int .i64 (j : Nat))], []⟩ =
  some (.ext 0, ⟨[(0, .sl .br (vs.map volD)), (1, .str n), (2, .fn f_impl_Pool_insert_c1 []), (6, .top), (7, .top), (8, .int .i64 ((vs.map volD).length : Nat)), (9, .int .i64 (bs vs n f i j : Nat))], []⟩)
 | 0, i, j, hf, hij, hj => by
  rw [h.loop]
  repeat (conv=>lhs;whnf;arg 2;tactic=>first|exact g1)
  rfl
 | f + 1, i, j, hf, hij, hj => by
  by_cases hlt : i < j
  ·obtain ⟨v, hv⟩ := get_some (xs := vs) (i := (i + j) / 2) (by omega)
   have hh := half (i := i) (j := j) (by omega)
   rw [h.loop]
   simp only [bs, if_pos hlt, hv]
   by_cases hc : cmpStr v.name n < 0
   ·rw [if_pos hc]
    repeat (conv=>lhs;whnf;arg 2;tactic=>first|exact g1|exact hh|exact map_get hv|exact ev_insert_c1 h v n)
    conv => lhs; whnf
    rw [hh, wrap_succ (by omega), bs_loop vs hl n f ((i + j) / 2 + 1) j (by omega) (by omega) hj]
   ·rw [if_neg hc]
    repeat (conv=>lhs;whnf;arg 2;tactic=>first|exact g1|exact hh|exact map_get hv|exact ev_insert_c1 h v n)
    conv => lhs; whnf
    rw [hh, bs_loop vs hl n f i ((i + j) / 2) (by omega) (by omega) (by omega)]
  ·rw [h.loop]
   simp only [bs, if_neg hlt]
   repeat (conv=>lhs;whnf;arg 2;tactic=>first|exact g1)
   rfl
theorem ev_bsearch (vs : List VolM) (hl : vs.length < 1000000) (n : Str) : ∃ b : Bool, W f_slices_BinarySearchFunc_Vol [.sl .br (vs.map volD), .str n, .fn f_impl_Pool_insert_c1 []] [] = some (.tup [.int .i64 (insIx vs n : Nat), .bool b], []) := by
 have e := bs_loop h vs hl n vs.length 0 vs.length (by omega) (by omega) (by omega)
 have hle := bs_le vs n vs.length 0 vs.length (by omega)
 rw [nc0] at e
 have e0 : ((vs.map volD).length : Nat) = vs.length := List.length_map ..
 unfold insIx
 rw [e0] at e
 by_cases hlt : bs vs n vs.length 0 vs.length < vs.length
 ·obtain ⟨v, hv⟩ := get_some (xs := vs) hlt
  refine ⟨cmpStr v.name n == 0, ?_⟩
  rw [h.call]
  conv => lhs; whnf
  rw [e0]
  repeat (conv=>lhs;whnf;arg 2;tactic=>first|exact g1|exact e|exact map_get hv|exact ev_insert_c1 h v n)
  rfl
 ·refine ⟨false, ?_⟩
  rw [h.call]
  conv => lhs; whnf
  rw [e0]
  repeat (conv=>lhs;whnf;arg 2;tactic=>first|exact g1|exact e)
  rfl
end
end Go.Gn

namespace Go.Gn
open Go
set_option maxRecDepth 100000
def ownA (p : PoolM) : List Obj := [.box [.hw 1, .hw 2], .row 2 0 2 (p.slots.map slotD), .row 2 p.vols.length 1 (p.vols.map volD)]
def ownB (p : PoolM) : List Obj := [.box [.hw 1, .hw 3], .row 2 0 2 (p.slots.map slotD), .dead, .row 2 p.vols.length 1 (p.vols.map volD)]
theorem insV_length (vs : List VolM) (v : VolM) : (insV vs v).length = vs.length + 1 := by
 have := bs_le vs v.name vs.length 0 vs.length (by omega)
 simp only [insV, insIx, List.length_append, List.length_take, List.length_drop, List.length_cons, List.length_nil]
 omega
section
variable {W : CallF} {L : LoopF} {E : EqF} {T : Prop → Bool} (h : IsK G W L E T)
include h
theorem ev_Insert (vs : List VolM) (hl : (vs.length + 1) * 40 ≤ 140737488355328) (v : VolM) (c : Nat) : W f_slices_Insert_Vol [.hw 0, .int .i64 (insIx vs v.name : Nat), .hs 1 0 1] [.row 2 vs.length 1 (vs.map volD), .box [.str v.name, .hw 2], .row 1 0 c (v.blocks.map intD)] =
  some (.hw 3, [.dead, .box [.str v.name, .hw 2], .dead, .row 2 (vs.length + 1) 1 ((insV vs v).map volD)]) := by
 have hle := bs_le vs v.name vs.length 0 vs.length (by omega)
 have hle' : insIx vs v.name ≤ vs.length := hle
 rw [h.call, bodyX rfl (cf := cf205) (g := insertX 40) rfl rfl]
 have e0 : (vs.map volD).length = vs.length := List.length_map ..
 rw [insertX, if_pos ⟨by omega, by rw [e0]; omega, e0.symm, .inr rfl, by rw [e0]; exact hl⟩, e0]
 simp only [Int.toNat_natCast, insV, List.map_append, List.map_take, List.map_drop, List.map_cons, List.map_nil]
 rfl
theorem ev_insert (p : PoolM) (hl : p.vols.length < 1000000) (v : VolM) (c : Nat) : W f_impl_Pool_insert [.ptr 0 0, .agg [.str v.name, .hw 3]] [.box [.hw 1, .hw 2], .row 2 0 2 (p.slots.map slotD), .row 2 p.vols.length 1 (p.vols.map volD), .row 1 0 c (v.blocks.map intD)] =
  some (.tup [], [.box [.hw 1, .hw 4], .row 2 0 2 (p.slots.map slotD), .dead, .dead, .row 2 (p.vols.length + 1) 1 ((insV p.vols v).map volD)]) := by
 obtain ⟨b, hb⟩ := ev_bsearch h p.vols hl v.name
 rw [h.call]
 repeat (conv=>lhs;whnf;arg 2;tactic=>first|exact hb|exact ev_Insert h p.vols (by omega) v c|exact g2)
 rfl
end
end Go.Gn

namespace Go.Gn
open Go
set_option maxRecDepth 100000
set_option maxHeartbeats 4000000
def SlotsB (n : Int) (xs : List SlotM) : Prop := ∀ x ∈ xs, -n ≤ x.uses ∧ x.uses ≤ n
def makeBad (p : PoolM) (nm : Str) (sz : Int) : Bool := !isName nm || (decide (fndI (volIx p.vols nm) ≥ 0) || !inR sz 1 6)
def makeM (p : PoolM) (nm : Str) (sz : Int) : PoolM := ⟨p.slots, insV p.vols ⟨nm, List.replicate sz.toNat 0⟩⟩
section
variable {W : CallF} {L : LoopF} {E : EqF} {T : Prop → Bool} (h : IsK G W L E T)
include h
theorem ev_make_c1 (p : PoolM) (hl : p.vols.length < 1000000) (nm : Str) (sz : Int) : W f_impl_PoolMake_c1 [.ptr 0 0, .ep .br [.str nm] 0, .ep .br (poolDs p) 0, .ep .br [.int .i64 sz] 0] (ownA p) =
  some (if makeBad p nm sz then (.bool false, ownA p) else (.bool true, ownB (makeM p nm sz))) := by
 unfold makeBad
 have hv := ev_vol h p (by omega) nm
 rw [h.call]
 cases hn : isName nm
 ·repeat (conv=>lhs;whnf;arg 2;tactic=>first|exact ev_isName h _|exact congrArg not hn)
  rfl
 ·cases hi : decide (fndI (volIx p.vols nm) ≥ 0)
  ·cases hr : inR sz 1 6
   ·repeat (conv=>lhs;whnf;arg 2;tactic=>first|exact ev_isName h _|exact hv|exact hi|exact ev_within h _ _ _|exact congrArg not hn|exact congrArg not hr)
    rfl
   ·have hr' := hr
    simp only [inR, Bool.and_eq_true, decide_eq_true_eq] at hr'
    obtain ⟨n, rfl⟩ : ∃ n : Nat, sz = n := ⟨sz.toNat, by omega⟩
    have hins := ev_insert h p hl ⟨nm, List.replicate n 0⟩ 0
    simp only [List.map_replicate] at hins
    repeat (conv=>lhs;whnf;arg 2;tactic=>first|exact g1|exact ev_isName h _|exact hv|exact hi|exact ev_within h _ _ _|exact hins|exact congrArg not hn|exact congrArg not hr|exact g2)
    have e : (makeM p nm n).vols.length = p.vols.length + 1 := insV_length _ _
    simp only [ownB, e]
    rfl
  ·repeat (conv=>lhs;whnf;arg 2;tactic=>first|exact ev_isName h _|exact hv|exact hi|exact congrArg not hn)
   rfl
end
end Go.Gn

namespace Go.Gn
open Go
set_option maxRecDepth 100000
set_option maxHeartbeats 4000000
def hasB (p : PoolM) (nm : Str) (b : Int) : Option Nat := match volIx p.vols nm with
 | some i => match p.vols[i]? with
  | some v => if inR b 0 ((v.blocks.length : Int) - 1) then some i else none
  | none => none
 | none => none
def freeM (xs : List SlotM) (old : Int) : List SlotM := if old > 0 then (match xs[(old - 1).toNat]? with | some x => xs.set (old - 1).toNat x.dec | none => xs) else xs
def fillM (xs : List SlotM) (t : Str) : List SlotM × Int := if seq t noText then (xs, 0) else putM xs t
def wrM (p : PoolM) (i b : Nat) (t : Str) : PoolM × Bool := match p.vols[i]? with
 | some v => match v.blocks[b]? with
  | some old => (⟨(fillM (freeM p.slots old) t).1, p.vols.set i ⟨v.name, v.blocks.set b (fillM (freeM p.slots old) t).2⟩⟩, seq t noText || decide ((fillM (freeM p.slots old) t).2 > 0))
  | none => (p, false)
 | none => (p, false)
theorem wr_es (vs : List VolM) (v : VolM) (i n : Nat) (a : Int) : (vs.map volD).set i ((volD v).set 1 (D.sl ((v.blocks.map intD).set n [(D.int .i64 a).scrub]))) = (vs.set i ⟨v.name, v.blocks.set n a⟩).map volD := by
 rw [List.map_set]
 congr 1
 simp only [volD, List.map_set]
 rfl
theorem freeM_length (xs : List SlotM) (old : Int) : (freeM xs old).length = xs.length := by
 unfold freeM
 split
 ·split <;> simp
 ·rfl
theorem freeM_B {xs : List SlotM} (hu : SlotsB 99 xs) {old : Int} : SlotsB 1000000 (freeM xs old) := by
 intro x hx
 unfold freeM at hx
 split at hx
 ·split at hx
  ·rename_i y hy
   rcases List.mem_or_eq_of_mem_set hx with hx | rfl
   ·have := hu x hx; omega
   ·have := hu y (List.mem_of_getElem? hy)
    unfold SlotM.dec
    split <;> simp only <;> omega
  ·have := hu x hx; omega
 ·have := hu x hx; omega
section
variable {W : CallF} {L : LoopF} {E : EqF} {T : Prop → Bool} (h : IsK G W L E T)
include h
theorem ev_hasBlock (p : PoolM) (hs : VolsSz p.vols) (nm : Str) (b : Int) : W f_impl_Pool_hasBlock [poolA p, .str nm, .int .i64 b] [] = some (.int .i64 (fndI (hasB p nm b)), []) := by
 have hl := hs.1
 have hv := ev_vol h p (by omega) nm
 unfold hasB
 rw [h.call]
 cases hx : volIx p.vols nm with
 | none =>
  rw [hx] at hv
  repeat (conv=>lhs;whnf;arg 2;tactic=>first|exact hv)
  rfl
 | some i =>
  rw [hx] at hv
  obtain ⟨_, hi, v, hvi, _⟩ := fnd_lt hx
  rw [Nat.sub_zero] at hvi
  have hb := hs.2 v (List.mem_of_getElem? hvi)
  simp only [hvi]
  have hlen : IntKind.i64.wrap (((v.blocks.map intD).length : Nat) - 1) = (v.blocks.length : Int) - 1 := by rw [List.length_map, wrap_id (by omega) (by omega)]
  have hw : W f_impl_within [.int .i64 b, .int .i64 0, .int .i64 (IntKind.i64.wrap (((v.blocks.map intD).length : Nat) - 1))] [] = some (.bool (inR b 0 ((v.blocks.length : Int) - 1)), []) := by rw [hlen]; exact ev_within h _ _ _
  have hi0 : decide (fndI (some i) < 0) = false := decide_eq_false (by simp [fndI])
  cases hr : inR b 0 ((v.blocks.length : Int) - 1)
  ·repeat (conv=>lhs;whnf;arg 2;tactic=>first|exact hv|exact map_get hvi|exact hw|exact congrArg not hr)
   rfl
  ·repeat (conv=>lhs;whnf;arg 2;tactic=>first|exact hv|exact map_get hvi|exact hw|exact congrArg not hr)
   rfl
theorem ev_free (xs : List SlotM) (h8 : xs.length = 8) (hu : SlotsB 1000000 xs) (old : Int) (h0 : 0 < old) (h1 : old ≤ 8) : W f_impl_drop [.hw 0, .int .i64 old] [.row 2 0 2 (xs.map slotD)] = some (.tup [], [.row 2 0 2 ((freeM xs old).map slotD)]) := by
 obtain ⟨j, rfl⟩ : ∃ j : Nat, old = (j : Int) + 1 := ⟨(old - 1).toNat, by omega⟩
 obtain ⟨x, hx⟩ := get_some (xs := xs) (i := j) (by omega)
 have hj : ((j : Int) + 1 - 1).toNat = j := by omega
 simp only [freeM, if_pos h0, hj, hx]
 exact ev_drop h xs j x hx (by omega) (hu x (List.mem_of_getElem? hx))
theorem ev_write_c1 (p : PoolM) (hs : VolsSz p.vols) (h8 : p.slots.length = 8) (hu : SlotsB 99 p.slots) (hb8 : ∀ v ∈ p.vols, ∀ b ∈ v.blocks, 0 ≤ b ∧ b ≤ 8) (nm : Str) (b : Int) (t : Str) (ht : t.size < 4611686018427387904) :
  W f_impl_PoolWrite_c1 [.ptr 0 0, .ep .br (poolDs p) 0, .ep .br [.str nm] 0, .ep .br [.int .i64 b] 0, .ep .br [.str t] 0] (ownA p) =
  some (match hasB p nm b with
   | none => (.bool false, ownA p)
   | some i => if textOk t then (.bool (wrM p i b.toNat t).2, ownA (wrM p i b.toNat t).1) else (.bool false, ownA p)) := by
 have hl := hs.1
 have hB := ev_hasBlock h p hs nm b
 rw [h.call]
 cases hx : hasB p nm b with
 | none =>
  rw [hx] at hB
  repeat (conv=>lhs;whnf;arg 2;tactic=>first|exact hB)
  rfl
 | some i =>
  rw [hx] at hB
  have hi0 : decide (fndI (some i) < 0) = false := decide_eq_false (by simp [fndI])
  simp only
  cases htx : textOk t
  ·repeat (conv=>lhs;whnf;arg 2;tactic=>first|exact hB|exact ev_TextOk h _ ht|exact congrArg not htx)
   rfl
  ·have hvx : ∃ v, p.vols[i]? = some v ∧ inR b 0 ((v.blocks.length : Int) - 1) = true := by
    unfold hasB at hx
    split at hx
    ·split at hx
     ·rename_i v hv
      split at hx
      ·rename_i hr; cases hx; exact ⟨v, hv, hr⟩
      ·cases hx
     ·cases hx
    ·cases hx
   obtain ⟨v, hv, hr⟩ := hvx
   simp only [inR, Bool.and_eq_true, decide_eq_true_eq] at hr
   obtain ⟨n, rfl⟩ : ∃ n : Nat, b = n := ⟨b.toNat, by omega⟩
   obtain ⟨old, ho⟩ := get_some (xs := v.blocks) (i := n) (by omega)
   have hil := lt_of_get hv
   have ho8 := hb8 v (List.mem_of_getElem? hv) old (List.mem_of_getElem? ho)
   simp only [wrM, hv, ho, Int.toNat_natCast, if_true]
   by_cases hold : old > 0
   ·have hf := ev_free h p.slots h8 (fun x hx => by have := hu x hx; omega) old (by omega) ho8.2
    cases hq : seq t noText
    ·have hp := ev_put h (freeM p.slots old) (by rw [freeM_length]; exact h8) (freeM_B hu) t htx
     repeat (conv=>lhs;whnf;arg 2;tactic=>first|exact g1|exact hB|exact ev_TextOk h _ ht|exact map_get hv|exact map_get ho|exact hf|exact hq|exact hp|exact get_set_self (by simp; omega)|exact congrArg not htx|exact congrArg not hq|exact g2)
     conv => lhs; whnf
     simp only [List.set_set, wr_es, fillM, hq, Bool.false_or, ownA, List.length_set, Bool.false_eq_true, if_false]
    ·repeat (conv=>lhs;whnf;arg 2;tactic=>first|exact g1|exact hB|exact ev_TextOk h _ ht|exact map_get hv|exact map_get ho|exact hf|exact hq|exact congrArg not htx|exact congrArg not hq|exact g2)
     conv => lhs; whnf
     simp only [List.set_set, wr_es, fillM, hq, Bool.true_or, ownA, List.length_set, if_true]
   ·have hfr : freeM p.slots old = p.slots := by unfold freeM; rw [if_neg hold]
    rw [hfr]
    cases hq : seq t noText
    ·have hp := ev_put h p.slots h8 (fun x hx => by have := hu x hx; omega) t htx
     repeat (conv=>lhs;whnf;arg 2;tactic=>first|exact g1|exact hB|exact ev_TextOk h _ ht|exact map_get hv|exact map_get ho|exact hq|exact hp|exact get_set_self (by simp; omega)|exact congrArg not htx|exact congrArg not hq|exact g2)
     conv => lhs; whnf
     simp only [List.set_set, wr_es, fillM, hq, Bool.false_or, ownA, List.length_set, Bool.false_eq_true, if_false]
    ·repeat (conv=>lhs;whnf;arg 2;tactic=>first|exact g1|exact hB|exact ev_TextOk h _ ht|exact map_get hv|exact map_get ho|exact hq|exact congrArg not htx|exact congrArg not hq|exact g2)
     conv => lhs; whnf
     simp only [List.set_set, wr_es, fillM, hq, Bool.true_or, ownA, List.length_set, if_true]
end
end Go.Gn

namespace Go.Gn
open Go
set_option maxRecDepth 100000
set_option maxHeartbeats 4000000
def incM (xs : List SlotM) (b : Int) : List SlotM := if b > 0 then (match xs[(b - 1).toNat]? with | some x => xs.set (b - 1).toNat x.inc | none => xs) else xs
def incL : List SlotM → List Int → List SlotM
 | xs, [] => xs
 | xs, b :: bs => incL (incM xs b) bs
def freeL : List SlotM → List Int → List SlotM
 | xs, [] => xs
 | xs, b :: bs => freeL (freeM xs b) bs
def delV (vs : List VolM) (i : Nat) : List VolM := vs.take i ++ vs.drop (i + 1)
def cloneBad (p : PoolM) (fr to : Str) : Bool := decide (fndI (volIx p.vols fr) < 0) || (!isName to || decide (fndI (volIx p.vols to) ≥ 0))
def clM (p : PoolM) (i : Nat) (to : Str) : PoolM := match p.vols[i]? with
 | some v => ⟨incL p.slots v.blocks, insV p.vols ⟨to, v.blocks⟩⟩
 | none => p
def goM (p : PoolM) (i : Nat) : PoolM := match p.vols[i]? with
 | some v => ⟨freeL p.slots v.blocks, delV p.vols i⟩
 | none => p
theorem incM_length (xs : List SlotM) (b : Int) : (incM xs b).length = xs.length := by
 unfold incM
 split
 ·split <;> simp
 ·rfl
theorem incM_B {n : Int} {xs : List SlotM} (hu : SlotsB n xs) {b : Int} : SlotsB (n + 1) (incM xs b) := by
 intro x hx
 unfold incM at hx
 split at hx
 ·split at hx
  ·rename_i y hy
   rcases List.mem_or_eq_of_mem_set hx with hx | rfl
   ·have := hu x hx; omega
   ·have := hu y (List.mem_of_getElem? hy)
    unfold SlotM.inc
    simp only
    omega
  ·have := hu x hx; omega
 ·have := hu x hx; omega
theorem freeM_B' {n : Int} {xs : List SlotM} (hu : SlotsB n xs) (hn : 0 ≤ n) {b : Int} : SlotsB (n + 1) (freeM xs b) := by
 intro x hx
 unfold freeM at hx
 split at hx
 ·split at hx
  ·rename_i y hy
   rcases List.mem_or_eq_of_mem_set hx with hx | rfl
   ·have := hu x hx; omega
   ·have := hu y (List.mem_of_getElem? hy)
    unfold SlotM.dec
    split <;> simp only <;> omega
  ·have := hu x hx; omega
 ·have := hu x hx; omega
theorem delV_length {vs : List VolM} {i : Nat} (hi : i < vs.length) : (delV vs i).length = vs.length - 1 := by
 simp only [delV, List.length_append, List.length_take, List.length_drop]; omega
section
variable {W : CallF} {L : LoopF} {E : EqF} {T : Prop → Bool} (h : IsK G W L E T)
include h
theorem ev_Delete (vs : List VolM) (i : Nat) (hi : i < vs.length) : W f_slices_Delete_Vol [.hw 0, .int .i64 (i : Nat), .int .i64 ((i + 1 : Nat) : Int)] [.row 2 vs.length 1 (vs.map volD)] = some (.hw 1, [.dead, .row 2 (vs.length - 1) 1 ((delV vs i).map volD)]) := by
 rw [h.call, bodyX rfl (cf := cf173) (g := deleteX 2) rfl rfl]
 have e0 : (vs.map volD).length = vs.length := List.length_map ..
 rw [deleteX, if_pos ⟨rfl, by omega, by omega, by rw [e0]; omega, .inr e0.symm⟩]
 simp only [Int.toNat_natCast, delV, List.map_append, List.map_take, List.map_drop]
 rw [show i + 1 - i = 1 by omega]
theorem inc_loop (p : PoolM) (bs : List Int) (hbl : bs.length < 1000) (hb8 : ∀ b ∈ bs, 0 ≤ b ∧ b ≤ 8) (ix : Nat) (to : Str) : ∀ (m i : Nat) (xs : List SlotM), i + m = bs.length → xs.length = 8 → SlotsB (1000 + i) xs →
  L (norm 3 cf170.live) (exitN 3 cf170.out (evCW W L G cf170 3 c170l0)) ⟨[(0, .ptr 0 0), (1, .ep .br (poolDs p) 0), (3, .ep .br [.str to] 0), (6, .int .i64 (ix : Nat)), (30, .sl .br (bs.map intD)), (31, .int .i64 ((bs.map intD).length : Nat)), (32, .int .i64 (i : Nat))], ownA ⟨xs, p.vols⟩⟩ =
  some (.ext 0, ⟨[(0, .ptr 0 0), (1, .ep .br (poolDs p) 0), (3, .ep .br [.str to] 0), (5, .top), (6, .int .i64 (ix : Nat))], ownA ⟨incL xs (bs.drop i), p.vols⟩⟩)
 | 0, i, xs, hm, h8, hu => by
  rw [h.loop, List.drop_eq_nil_of_le (show bs.length ≤ i by omega)]
  repeat (conv=>lhs;whnf;arg 2;tactic=>first|exact g1)
  rfl
 | m + 1, i, xs, hm, h8, hu => by
  obtain ⟨b, hb⟩ := get_some (xs := bs) (i := i) (by omega)
  have hbb := hb8 b (List.mem_of_getElem? hb)
  have hu' := incM_B (b := b) hu
  have hu2 : SlotsB (1000 + (i + 1 : Nat)) (incM xs b) := fun x hx => by have := hu' x hx; omega
  rw [h.loop, drop_cons hb, incL]
  by_cases hp : b > 0
  ·obtain ⟨j, rfl⟩ : ∃ j : Nat, b = (j : Int) + 1 := ⟨(b - 1).toNat, by omega⟩
   obtain ⟨x, hx⟩ := get_some (xs := xs) (i := j) (by omega)
   have hux := hu x (List.mem_of_getElem? hx)
   have hj : ((j : Int) + 1 - 1).toNat = j := by omega
   have hinc : incM xs ((j : Int) + 1) = xs.set j x.inc := by simp only [incM, if_pos hp, hj, hx]
   rw [hinc] at hu2 ⊢
   repeat (conv=>lhs;whnf;arg 2;tactic=>first|exact g1|exact map_get hb|exact map_get hx|exact g2)
   conv => lhs; whnf
   rw [wrap_succ (by omega), wrap_id (n := x.uses + 1) (by omega) (by omega)]
   have es : (xs.map slotD).set j (splice (slotD x) (0 + 1) [D.int .i64 (x.uses + 1)]) = (xs.set j x.inc).map slotD := by rw [← set_map]; rfl
   rw [es]
   exact inc_loop p bs hbl hb8 ix to m (i + 1) (xs.set j x.inc) (by omega) (by simp [h8]) hu2
  ·have hinc : incM xs b = xs := by simp only [incM, if_neg hp]
   rw [hinc] at hu2 ⊢
   repeat (conv=>lhs;whnf;arg 2;tactic=>first|exact g1|exact map_get hb)
   conv => lhs; whnf
   rw [wrap_succ (by omega)]
   exact inc_loop p bs hbl hb8 ix to m (i + 1) xs (by omega) h8 hu2
theorem ev_clone_c1 (p : PoolM) (hl : p.vols.length < 1000000) (hbl : ∀ v ∈ p.vols, v.blocks.length < 1000) (h8 : p.slots.length = 8) (hu : SlotsB 1000 p.slots) (hb8 : ∀ v ∈ p.vols, ∀ b ∈ v.blocks, 0 ≤ b ∧ b ≤ 8) (fr to : Str) :
  W f_impl_PoolClone_c1 [.ptr 0 0, .ep .br (poolDs p) 0, .ep .br [.str fr] 0, .ep .br [.str to] 0] (ownA p) =
  some (if cloneBad p fr to then (.bool false, ownA p) else (.bool true, ownB (clM p (fndI (volIx p.vols fr)).toNat to))) := by
 unfold cloneBad
 have hv := ev_vol h p (by omega) fr
 have hv2 := ev_vol h p (by omega) to
 rw [h.call]
 cases hf : volIx p.vols fr with
 | none =>
  rw [hf] at hv
  repeat (conv=>lhs;whnf;arg 2;tactic=>first|exact hv)
  rfl
 | some i =>
  rw [hf] at hv
  have hi0 : decide (fndI (some i) < 0) = false := decide_eq_false (by simp [fndI])
  obtain ⟨_, hi, v, hvi, _⟩ := fnd_lt hf
  rw [Nat.sub_zero] at hvi
  have hvb := hbl v (List.mem_of_getElem? hvi)
  have hk : (fndI (some i)).toNat = i := by simp [fndI]
  rw [hk, hi0]
  cases hn : isName to
  ·repeat (conv=>lhs;whnf;arg 2;tactic=>first|exact hv|exact ev_isName h _|exact congrArg not hn)
   rfl
  ·cases hg : decide (fndI (volIx p.vols to) ≥ 0)
   ·have e := inc_loop h p v.blocks hvb (hb8 v (List.mem_of_getElem? hvi)) i to v.blocks.length 0 p.slots (by omega) h8 (fun x hx => by have := hu x hx; omega)
    rw [nc0, List.drop_zero] at e
    have hins := ev_insert h ⟨incL p.slots v.blocks, p.vols⟩ hl ⟨to, v.blocks⟩ 1
    repeat (conv=>lhs;whnf;arg 2;tactic=>first|exact hv|exact ev_isName h _|exact hv2|exact hg|exact map_get hvi|exact e|exact ev_cloneInt h _ (by omega)|exact hins|exact congrArg not hn|exact g2)
    have e : (insV p.vols ⟨to, v.blocks⟩).length = p.vols.length + 1 := insV_length _ _
    simp only [clM, hvi, ownB, e]
    rfl
   ·repeat (conv=>lhs;whnf;arg 2;tactic=>first|exact hv|exact ev_isName h _|exact hv2|exact hg|exact congrArg not hn)
    rfl
end
end Go.Gn

