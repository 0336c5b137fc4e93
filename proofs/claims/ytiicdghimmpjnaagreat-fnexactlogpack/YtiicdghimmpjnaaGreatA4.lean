/- Part 4 of a proof: an evaluator of the program, proved sound, and what it answers. -/
import Derived.Test.YtiicdghimmpjnaaGreatA3
import Derived.Laws.Bits64
set_option linter.all false
namespace Go.Gn
open Go
set_option linter.unusedVariables false
theorem wrap_id {n : Int} (h1 : -9223372036854775808 ≤ n) (h2 : n ≤ 9223372036854775807) : IntKind.i64.wrap n = n := by
  rw [IntKind.wrap_i64]; omega
theorem wrap_succ {i : Nat} (h : i < 4611686018427387904) : IntKind.i64.wrap ((i : Int) + 1) = ((i + 1 : Nat) : Int) := by
  rw [wrap_id (by omega) (by omega)]; rfl
theorem byteAt_range (s : ByteArray) (i : Nat) : 0 ≤ byteAt s i ∧ byteAt s i ≤ 255 := by
  unfold byteAt
  split
  · have := (s[i]).toNat_lt
    omega
  · omega
theorem wrap_byte (s : ByteArray) (i : Nat) : IntKind.i64.wrap (byteAt s i) = byteAt s i := by
  have := byteAt_range s i
  exact wrap_id (by omega) (by omega)
theorem blt_self (i : Nat) : Nat.blt i i = false := by rw [blt_dec]; simp
theorem blt_t {a b : Nat} (h : a < b) : Nat.blt a b = true := by rw [Nat.blt_eq]; exact h
theorem get_set_self {α : Type} {l : List α} {i : Nat} {x : α} (h : i < l.length) : (l.set i x)[i]? = some x := by simp [h]
theorem nc0 : ((0 : Nat) : Int) = 0 := rfl
abbrev Str := ByteArray
def seq (a b : Str) : Bool := a.toList == b.toList
theorem seq_eq (a b : Str) : seq a b = decide (a = b) := by
  unfold seq
  rw [ByteArray.toList_eq, ByteArray.toList_eq, Bool.eq_iff_iff]
  simp only [beq_iff_eq, decide_eq_true_eq]
  constructor
  · intro h; cases a; cases b; simp only at h; congr; exact Array.toList_inj.1 h
  · rintro rfl; rfl
theorem seq_refl (a : Str) : seq a a = true := by rw [seq_eq]; simp
structure OpM where
  kind : Int
  name : Str
  to : Str
  n : Int
  text : Str
  deriving DecidableEq
def opD (o : OpM) : List D := [.int .i64 o.kind, .str o.name, .str o.to, .int .i64 o.n, .str o.text]
def opC (o : OpM) : List AV := [.int .i64 o.kind, .str o.name, .str o.to, .int .i64 o.n, .str o.text]
def opEq (a b : OpM) : Bool := a.kind == b.kind && (seq a.name b.name && (seq a.to b.to && (a.n == b.n && seq a.text b.text)))
def OpM.Sz (o : OpM) : Prop := o.name.size < 4611686018427387904 ∧ o.to.size < 4611686018427387904 ∧ o.text.size < 4611686018427387904
structure SlotM where
  text : Str
  uses : Int
  deriving DecidableEq
def slotD (s : SlotM) : List D := [.str s.text, .int .i64 s.uses]
structure VolM where
  name : Str
  blocks : List Int
  deriving DecidableEq
def intD (n : Int) : List D := [.int .i64 n]
def volD (v : VolM) : List D := [.str v.name, .sl (v.blocks.map intD)]
structure PoolM where
  slots : List SlotM
  vols : List VolM
  deriving DecidableEq
def poolA (p : PoolM) : AV := .agg [.sl .br (p.slots.map slotD), .sl .br (p.vols.map volD)]
structure NodeM where
  up : Bool
  term : Int
  leads : Bool
  alone : Bool
  ops : List OpM
  deriving DecidableEq
structure MsgM where
  kind : Int
  to : Int
  term : Int
  n : Int
  op : OpM
  ops : List OpM
  deriving DecidableEq
theorem szOk_map {α : Type} (f : α → List D) (sz : Nat) (h : ∀ a, (f a).length = sz) (l : List α) : szOk sz (l.map f) = true := by
  cases l with
  | nil => rfl
  | cons a l => simp only [List.map_cons, szOk, h, Nat.beq_refl]
theorem map_get {α : Type} {f : α → List D} {l : List α} {i : Nat} {a : α} (h : l[i]? = some a) : (l.map f)[i]? = some (f a) := by simp [h]
theorem beq_t {a b : Nat} (h : a = b) : Nat.beq a b = true := by rw [h]; exact Nat.beq_refl _
theorem agree1 {l : List Nat} {os os' : List Obj} {q : Nat} (hl : l = [q]) (hg : os.getD q .dead = os'.getD q .dead) : Agree l os os' := by
  subst hl
  intro r hr
  rw [List.mem_singleton] at hr
  rw [hr]; exact hg
theorem dT {p : Prop} [Decidable p] (q : p := by first | omega | (simp only [List.length_map, List.length_set, List.length_append, List.length_cons, List.length_nil, List.length_replicate, List.length_take, List.length_drop]; omega)) : decide p = true := decide_eq_true q
theorem dF {p : Prop} [Decidable p] (q : ¬ p := by first | omega | (simp only [List.length_map, List.length_set, List.length_append, List.length_cons, List.length_nil, List.length_replicate, List.length_take, List.length_drop]; omega)) : decide p = false := decide_eq_false q
theorem g1 {α : Sort _} {a b : α} (q : a = b := by first | exact dT | exact dF) : a = b := q
theorem g2 {α : Sort _} {a b : α} (q : a = b := by first | exact wrap_id (by omega) (by omega) | exact Int.add_sub_cancel _ _ | exact blt_self _ | exact blt_t (by first | assumption | omega) | exact Nat.beq_refl _ | exact beq_t (by first | omega | (simp only [List.length_map, List.length_set, List.length_append, List.length_cons, List.length_nil, List.length_replicate, List.length_take, List.length_drop]; omega)) | exact (h.t _).2 (by repeat (first | exact trivial | refine ⟨rfl, ?_⟩ | refine ⟨rdV_os rfl (fun _ => agree1 rfl rfl), ?_⟩))) : a = b := q
section
variable {W : CallF} {L : LoopF} {E : EqF} {T : Prop → Bool} (h : IsK G W L E T)
include h
theorem E_op (a b : OpM) : E [1, 2, 2, 1, 2] (opC a) (opC b) = some (opEq a b) := by
  rw [h.e]
  simp only [opC, eqCells, eqCell, if_true, opEq, seq]
  cases a.kind == b.kind <;> simp only [Bool.true_and, Bool.false_and]
  cases a.name.toList == b.name.toList <;> simp only [Bool.true_and, Bool.false_and]
  cases a.to.toList == b.to.toList <;> simp only [Bool.true_and, Bool.false_and]
  cases a.n == b.n <;> simp only [Bool.true_and, Bool.false_and]
  cases a.text.toList == b.text.toList <;> rfl
end
end Go.Gn

namespace Go.Gn
open Go
set_option linter.unusedVariables false
set_option maxRecDepth 100000
def inR (x lo hi : Int) : Bool := decide (lo ≤ x) && decide (x ≤ hi)
def isAd (b : Int) : Bool := inR b 97 100
def allAd (s : Str) (i m : Nat) : Bool := (List.range' i m).all fun j => isAd (byteAt s j)
def textOk (s : Str) : Bool := allAd s 0 s.size && decide ((s.size : Int) ≤ 4)
def isName (s : Str) : Bool := seq s ⟨#[65]⟩ || (seq s ⟨#[66]⟩ || (seq s ⟨#[67]⟩ || seq s ⟨#[68]⟩))
def placeSum (s : Str) : Nat → Nat → Int → Int
  | _, 0, acc => acc
  | i, m + 1, acc => placeSum s (i + 1) m (acc + ((i : Int) + 1) * (byteAt s i - 96))
def textPlace (s : Str) : Int := (placeSum s 0 s.size 0).tmod 8 + 1
def textNext (p : Int) : Int := p.tmod 8 + 1
theorem allAd_succ (s : Str) (i m : Nat) : allAd s i (m + 1) = (isAd (byteAt s i) && allAd s (i + 1) m) := by
  unfold allAd; rw [List.range'_succ, List.all_cons]
theorem isAd_iff {b : Int} : isAd b = true ↔ 97 ≤ b ∧ b ≤ 100 := by simp [isAd, inR]
theorem placeSum_range (s : Str) : ∀ (m i : Nat) (acc : Int), allAd s i m = true → i + m ≤ 4 → 0 ≤ acc → acc ≤ 100 * i → 0 ≤ placeSum s i m acc ∧ placeSum s i m acc ≤ 100 * (i + m)
  | 0, i, acc, _, _, h1, h2 => by simp only [placeSum]; omega
  | m + 1, i, acc, ha, hi, h1, h2 => by
    rw [allAd_succ, Bool.and_eq_true, isAd_iff] at ha
    obtain ⟨⟨h3, h4⟩, h5⟩ := ha
    simp only [placeSum]
    have : i = 0 ∨ i = 1 ∨ i = 2 ∨ i = 3 := by omega
    have h6 : 0 ≤ ((i : Int) + 1) * (byteAt s i - 96) ∧ ((i : Int) + 1) * (byteAt s i - 96) ≤ 16 := by rcases this with rfl | rfl | rfl | rfl <;> omega
    have := placeSum_range s m (i + 1) (acc + ((i : Int) + 1) * (byteAt s i - 96)) h5 (by omega) (by omega) (by omega)
    omega
theorem textPlace_range {s : Str} (h : textOk s = true) : 1 ≤ textPlace s ∧ textPlace s ≤ 8 := by
  simp only [textOk, Bool.and_eq_true, decide_eq_true_eq] at h
  have := placeSum_range s s.size 0 0 h.1 (by omega) (by omega) (by omega)
  unfold textPlace
  rw [Int.tmod_eq_emod_of_nonneg this.1]
  omega
theorem textNext_range {p : Int} (h : 1 ≤ p) : 1 ≤ textNext p ∧ textNext p ≤ 8 := by
  unfold textNext
  rw [Int.tmod_eq_emod_of_nonneg (by omega)]
  omega
section
variable {W : CallF} {L : LoopF} {E : EqF} {T : Prop → Bool} (h : IsK G W L E T)
include h
theorem ev_within (x lo hi : Int) : W f_impl_within [.int .i64 x, .int .i64 lo, .int .i64 hi] [] = some (.bool (inR x lo hi), []) := by
  rw [h.call]
  unfold inR
  conv => lhs; whnf
  cases h1 : decide (x ≥ lo)
  · kernel_rfl
  · kernel_rfl
theorem ev_l6In (x lo hi : Int) : W f_spec_l6In [.int .i64 x, .int .i64 lo, .int .i64 hi] [] = some (.bool (inR x lo hi), []) := by
  rw [h.call]
  unfold inR
  conv => lhs; whnf
  cases h1 : decide (x ≥ lo)
  · kernel_rfl
  · kernel_rfl
theorem ev_isSlot (x : Int) : W f_impl_isSlot [.int .i64 x] [] = some (.bool (inR x 1 8), []) := by
  rw [h.call]; conv => lhs; whnf
  rw [ev_within h]; kernel_rfl
theorem textOk_loop (s : Str) (hs : s.size < 4611686018427387904) : ∀ m i, i + m = s.size → L (norm 0 cf135.live) (exitN 0 cf135.out (evCW W L G cf135 0 c135l0)) ⟨[(0, .str s), (5, .int .i64 s.size), (6, .int .i64 i)], []⟩ =
    some (if allAd s i m then (.ext 0, ⟨[(0, .str s), (2, .top)], []⟩) else (.ret, ⟨[(0, .str s), (2, .bool false)], []⟩))
  | 0, i, hi => by
    rw [h.loop]
    conv => lhs; whnf
    rw [show decide ((i:Int) < (s.size : Int)) = false from decide_eq_false (by omega)]
    kernel_rfl
  | m + 1, i, hi => by
    rw [h.loop]
    conv => lhs; whnf
    rw [show decide ((i:Int) < (s.size : Int)) = true from decide_eq_true (by omega)]
    conv => lhs; whnf
    rw [show decide (i < s.size) = true from decide_eq_true (by omega)]
    conv => lhs; whnf
    rw [wrap_byte, ev_within h, allAd_succ]
    conv => lhs; whnf
    change (match !isAd (byteAt s i) with | true => _ | false => _) = _
    cases isAd (byteAt s i)
    · kernel_rfl
    · conv => lhs; whnf
      rw [wrap_succ (by omega), textOk_loop s hs m (i + 1) (by omega)]
      rfl
theorem ev_TextOk (s : Str) (hs : s.size < 4611686018427387904) : W f_impl_TextOk [.str s] [] = some (.bool (textOk s), []) := by
  unfold textOk
  rw [h.call]; conv => lhs; whnf
  have e := textOk_loop h s hs s.size 0 (by omega)
  rw [nc0] at e; rw [e]; clear e
  cases allAd s 0 s.size <;> rfl
theorem textOk_loop' (s : Str) (hs : s.size < 4611686018427387904) : ∀ m i, i + m = s.size → L (norm 0 cf152.live) (exitN 0 cf152.out (evCW W L G cf152 0 c152l0)) ⟨[(0, .str s), (3, .int .i64 i)], []⟩ =
    some (if allAd s i m then (.ext 0, ⟨[(0, .str s), (2, .top)], []⟩) else (.ret, ⟨[(0, .str s), (2, .bool false)], []⟩))
  | 0, i, hi => by
    rw [h.loop]
    conv => lhs; whnf
    rw [show decide ((i:Int) < (s.size : Int)) = false from decide_eq_false (by omega)]
    kernel_rfl
  | m + 1, i, hi => by
    rw [h.loop]
    conv => lhs; whnf
    rw [show decide ((i:Int) < (s.size : Int)) = true from decide_eq_true (by omega)]
    conv => lhs; whnf
    rw [show decide (i < s.size) = true from decide_eq_true (by omega)]
    conv => lhs; whnf
    rw [wrap_byte, ev_l6In h, allAd_succ]
    conv => lhs; whnf
    change (match !isAd (byteAt s i) with | true => _ | false => _) = _
    cases isAd (byteAt s i)
    · kernel_rfl
    · conv => lhs; whnf
      rw [wrap_succ (by omega), textOk_loop' s hs m (i + 1) (by omega)]
      rfl
theorem ev_sTextOk (s : Str) (hs : s.size < 4611686018427387904) : W f_spec_TextOk [.str s] [] = some (.bool (textOk s), []) := by
  unfold textOk
  rw [h.call]; conv => lhs; whnf
  have e := textOk_loop' h s hs s.size 0 (by omega)
  rw [nc0] at e; rw [e]; clear e
  cases allAd s 0 s.size <;> rfl
theorem ev_isName (s : Str) : W f_impl_isName [.str s] [] = some (.bool (isName s), []) := by
  rw [h.call]; conv => lhs; whnf
  unfold isName seq
  cases s.toList == (⟨#[65]⟩ : ByteArray).toList
  · conv => lhs; whnf
    cases s.toList == (⟨#[66]⟩ : ByteArray).toList
    · conv => lhs; whnf
      cases s.toList == (⟨#[67]⟩ : ByteArray).toList <;> kernel_rfl
    · kernel_rfl
  · kernel_rfl
end
end Go.Gn

namespace Go.Gn
open Go
set_option linter.unusedVariables false
set_option maxRecDepth 100000
def fnd {α : Type} (p : α → Bool) : List α → Nat → Option Nat
  | [], _ => none
  | x :: xs, i => match p x with
    | true => some i
    | false => fnd p xs (i + 1)
def fndI (r : Option Nat) : Int := match r with
  | some i => i
  | none => -1
theorem drop_cons {α : Type} {xs : List α} {i : Nat} {x : α} (h : xs[i]? = some x) : xs.drop i = x :: xs.drop (i + 1) := by
  obtain ⟨hl, rfl⟩ := List.getElem?_eq_some_iff.1 h
  exact List.drop_eq_getElem_cons hl
theorem get_some {α : Type} {xs : List α} {i : Nat} (h : i < xs.length) : ∃ x, xs[i]? = some x := ⟨xs[i], List.getElem?_eq_getElem h⟩
section
variable {W : CallF} {L : LoopF} {E : EqF} {T : Prop → Bool} (h : IsK G W L E T)
include h
theorem ev_TextNext (p : Int) (hp : inR p 1 8 = true) : W f_impl_TextNext [.int .i64 p] [] = some (.int .i64 (textNext p), []) := by
  rw [h.call]; conv => lhs; whnf
  rw [ev_isSlot h]; conv => lhs; whnf
  change (match !(inR p 1 8) with | true => _ | false => _) = _
  rw [hp]
  conv => lhs; whnf
  simp only [inR, Bool.and_eq_true, decide_eq_true_eq] at hp
  have : IntKind.i64.wrap (p.tmod 8 + 1) = textNext p := by
    have := textNext_range hp.1
    exact wrap_id (by unfold textNext at this; omega) (by unfold textNext at this; omega)
  rw [this]
theorem ev_l1Next (p : Int) (hp : inR p 1 8 = true) : W f_spec_l1Next [.int .i64 p] [] = some (.int .i64 (textNext p), []) := by
  rw [h.call]; conv => lhs; whnf
  simp only [inR, Bool.and_eq_true, decide_eq_true_eq] at hp
  have : IntKind.i64.wrap (p.tmod 8 + 1) = textNext p := by
    have := textNext_range hp.1
    exact wrap_id (by unfold textNext at this; omega) (by unfold textNext at this; omega)
  rw [this]
omit h in
theorem place_step {s : Str} {i m : Nat} {acc : Int} (ha : allAd s i (m + 1) = true) (hi : i + (m + 1) ≤ 4) (h1 : 0 ≤ acc) (h2 : acc ≤ 100 * i) :
    IntKind.i64.wrap (acc + IntKind.i64.wrap (IntKind.i64.wrap ((i : Int) + 1) * IntKind.i64.wrap (IntKind.i64.wrap (IntKind.u8.wrap (byteAt s i - 97)) + 1))) = acc + ((i : Int) + 1) * (byteAt s i - 96) ∧ 0 ≤ acc + ((i : Int) + 1) * (byteAt s i - 96) ∧ acc + ((i : Int) + 1) * (byteAt s i - 96) ≤ 100 * (i + 1 : Nat) := by
  rw [allAd_succ, Bool.and_eq_true, isAd_iff] at ha
  obtain ⟨⟨h3, h4⟩, _⟩ := ha
  have e1 : IntKind.u8.wrap (byteAt s i - 97) = byteAt s i - 97 := by rw [IntKind.wrap_u8]; omega
  rw [e1, wrap_id (n := byteAt s i - 97) (by omega) (by omega), wrap_id (n := byteAt s i - 97 + 1) (by omega) (by omega), wrap_id (n := (i : Int) + 1) (by omega) (by omega)]
  have e2 : byteAt s i - 97 + 1 = byteAt s i - 96 := by omega
  rw [e2]
  have : i = 0 ∨ i = 1 ∨ i = 2 ∨ i = 3 := by omega
  have h6 : 0 ≤ ((i : Int) + 1) * (byteAt s i - 96) ∧ ((i : Int) + 1) * (byteAt s i - 96) ≤ 16 := by rcases this with rfl | rfl | rfl | rfl <;> omega
  rw [wrap_id (n := ((i : Int) + 1) * (byteAt s i - 96)) (by omega) (by omega), wrap_id (by omega) (by omega)]
  omega
theorem place_loop (s : Str) (hs : s.size ≤ 4) : ∀ m i acc, i + m = s.size → allAd s i m = true → 0 ≤ acc → acc ≤ 100 * (i : Int) → L (norm 0 cf179.live) (exitN 0 cf179.out (evCW W L G cf179 0 c179l0)) ⟨[(0, .str s), (3, .int .i64 acc), (9, .int .i64 s.size), (10, .int .i64 i)], []⟩ =
    some (.ext 0, ⟨[(2, .top), (3, .int .i64 (placeSum s i m acc))], []⟩)
  | 0, i, acc, hi, ha, h1, h2 => by
    rw [h.loop]
    conv => lhs; whnf
    rw [show decide ((i:Int) < (s.size : Int)) = false from decide_eq_false (by omega)]
    rfl
  | m + 1, i, acc, hi, ha, h1, h2 => by
    rw [h.loop]
    conv => lhs; whnf
    rw [show decide ((i:Int) < (s.size : Int)) = true from decide_eq_true (by omega)]
    conv => lhs; whnf
    rw [show decide (i < s.size) = true from decide_eq_true (by omega)]
    conv => lhs; whnf
    obtain ⟨e1, e2, e3⟩ := place_step ha (by omega) h1 h2
    rw [e1, wrap_succ (by omega), place_loop s hs m (i + 1) _ (by omega) (by rw [allAd_succ, Bool.and_eq_true] at ha; exact ha.2) e2 e3]
    rfl
omit h in
theorem place_fin {s : Str} (hs : textOk s = true) : IntKind.i64.wrap ((placeSum s 0 s.size 0).tmod 8 + 1) = textPlace s := by
  have := textPlace_range hs
  exact wrap_id (by unfold textPlace at this; omega) (by unfold textPlace at this; omega)
theorem ev_TextPlace (s : Str) (hs : textOk s = true) : W f_impl_TextPlace [.str s] [] = some (.int .i64 (textPlace s), []) := by
  have hs' := hs
  simp only [textOk, Bool.and_eq_true, decide_eq_true_eq] at hs'
  rw [h.call]; conv => lhs; whnf
  rw [ev_TextOk h s (by omega), hs]; conv => lhs; whnf
  have e := place_loop h s (by omega) s.size 0 0 (by omega) hs'.1 (by omega) (by omega)
  rw [nc0] at e; rw [e]; clear e
  conv => lhs; whnf
  rw [place_fin hs]
theorem place_loop' (s : Str) (hs : s.size ≤ 4) : ∀ m i acc, i + m = s.size → allAd s i m = true → 0 ≤ acc → acc ≤ 100 * (i : Int) → L (norm 0 cf207.live) (exitN 0 cf207.out (evCW W L G cf207 0 c207l0)) ⟨[(0, .str s), (3, .int .i64 acc), (4, .int .i64 i)], []⟩ =
    some (.ext 0, ⟨[(2, .top), (3, .int .i64 (placeSum s i m acc))], []⟩)
  | 0, i, acc, hi, ha, h1, h2 => by
    rw [h.loop]
    conv => lhs; whnf
    rw [show decide ((i:Int) < (s.size : Int)) = false from decide_eq_false (by omega)]
    rfl
  | m + 1, i, acc, hi, ha, h1, h2 => by
    rw [h.loop]
    conv => lhs; whnf
    rw [show decide ((i:Int) < (s.size : Int)) = true from decide_eq_true (by omega)]
    conv => lhs; whnf
    rw [show decide (i < s.size) = true from decide_eq_true (by omega)]
    conv => lhs; whnf
    obtain ⟨e1, e2, e3⟩ := place_step ha (by omega) h1 h2
    rw [e1, wrap_succ (by omega), place_loop' s hs m (i + 1) _ (by omega) (by rw [allAd_succ, Bool.and_eq_true] at ha; exact ha.2) e2 e3]
    rfl
theorem ev_l1Place (s : Str) (hs : textOk s = true) : W f_spec_l1Place [.str s] [] = some (.int .i64 (textPlace s), []) := by
  have hs' := hs
  simp only [textOk, Bool.and_eq_true, decide_eq_true_eq] at hs'
  rw [h.call]; conv => lhs; whnf
  have e := place_loop' h s (by omega) s.size 0 0 (by omega) hs'.1 (by omega) (by omega)
  rw [nc0] at e; rw [e]; clear e
  conv => lhs; whnf
  rw [place_fin hs]
theorem indexSlot_loop (xs : List SlotM) (hl : xs.length < 4611686018427387904) (f : Nat) (cf : CF) (ds : List D) (p : SlotM → Bool) (hG : G f = some cf) (hi : cf.inl = false) (hr : cf.byRef = [])
    (hp : ∀ x : SlotM, W f [.agg [.str x.text, .int .i64 x.uses], .ep .br ds 0] [] = some (.bool (p x), [])) : ∀ m i, i + m = xs.length → L (norm 0 cf196.live) (exitN 0 cf196.out (evCW W L G cf196 0 c196l0)) ⟨[(0, .sl .br (xs.map slotD)), (1, .fn f [.ep .br ds 0]), (7, .int .i64 ((xs.map slotD).length : Nat)), (8, .int .i64 i)], []⟩ =
    some (match fnd p (xs.drop i) i with | none => (.ext 0, ⟨[(4, .top)], []⟩) | some j => (.ret, ⟨[(4, .int .i64 j)], []⟩))
  | 0, i, hm => by
    rw [h.loop]
    conv => lhs; whnf
    rw [show decide ((i:Int) < ((xs.map slotD).length : Nat)) = false from decide_eq_false (by simp; omega)]
    rw [show xs.drop i = [] from List.drop_eq_nil_of_le (by omega)]
    rfl
  | m + 1, i, hm => by
    obtain ⟨x, hx⟩ := get_some (xs := xs) (i := i) (by omega)
    rw [h.loop]
    conv => lhs; whnf
    rw [show decide ((i:Int) < ((xs.map slotD).length : Nat)) = true from decide_eq_true (by simp; omega)]
    conv => lhs; whnf
    rw [map_get (f := slotD) hx]
    conv => lhs; whnf
    rw [hG]
    conv => lhs; whnf
    rw [hi]
    conv => lhs; whnf
    rw [hr]
    conv => lhs; whnf
    rw [hp x, drop_cons hx]
    conv => lhs; whnf
    change _ = some (match (match p x with | true => some i | false => fnd p (xs.drop (i + 1)) (i + 1)) with | none => _ | some j => _)
    cases p x
    · conv => lhs; whnf
      rw [wrap_succ (by omega), indexSlot_loop xs hl f cf ds p hG hi hr hp m (i + 1) (by omega)]
    · rfl
theorem ev_indexSlot (xs : List SlotM) (hl : xs.length < 4611686018427387904) (f : Nat) (cf : CF) (ds : List D) (p : SlotM → Bool) (hG : G f = some cf) (hi : cf.inl = false) (hr : cf.byRef = [])
    (hp : ∀ x : SlotM, W f [.agg [.str x.text, .int .i64 x.uses], .ep .br ds 0] [] = some (.bool (p x), [])) : W f_slices_IndexFunc_Slot [.sl .br (xs.map slotD), .fn f [.ep .br ds 0]] [] = some (.int .i64 (fndI (fnd p xs 0)), []) := by
  rw [h.call]; conv => lhs; whnf
  have e := indexSlot_loop h xs hl f cf ds p hG hi hr hp xs.length 0 (by omega)
  rw [nc0] at e; rw [e]; clear e
  rw [List.drop_zero]
  cases fnd p xs 0 <;> rfl
theorem ev_find_c1 (x : SlotM) (t : Str) : W f_impl_find_c1 [.agg [.str x.text, .int .i64 x.uses], .ep .br [.str t] 0] [] = some (.bool (seq x.text t), []) := by
  rw [h.call]; conv => lhs; whnf
  rfl
theorem ev_find (xs : List SlotM) (hl : xs.length < 4611686018427387904) (t : Str) : W f_impl_find [.sl .br (xs.map slotD), .str t] [] = some (.int .i64 (IntKind.i64.wrap (fndI (fnd (fun x => seq x.text t) xs 0) + 1)), []) := by
  rw [h.call]; conv => lhs; whnf
  rw [ev_indexSlot h xs hl _ cf200 _ (fun x => seq x.text t) rfl rfl rfl (fun x => ev_find_c1 h x t)]
  rfl
theorem ev_StoreOk_c1 (x y : SlotM) : W f_impl_StoreOk_c1 [.agg [.str x.text, .int .i64 x.uses], .ep .br (slotD y) 0] [] = some (.bool (seq x.text y.text), []) := by
  rw [h.call]; conv => lhs; whnf
  rfl
theorem ev_containsSlot (xs : List SlotM) (hl : xs.length < 4611686018427387904) (y : SlotM) : W f_slices_ContainsFunc_Slot [.sl .br (xs.map slotD), .fn f_impl_StoreOk_c1 [.ep .br (slotD y) 0]] [] = some (.bool (decide (fndI (fnd (fun x => seq x.text y.text) xs 0) ≥ 0)), []) := by
  rw [h.call]; conv => lhs; whnf
  rw [ev_indexSlot h xs hl _ cf171 _ (fun x => seq x.text y.text) rfl rfl rfl (fun x => ev_StoreOk_c1 h x y)]
  rfl
end
end Go.Gn

namespace Go.Gn
open Go
set_option linter.unusedVariables false
set_option maxRecDepth 100000
theorem set_map {α : Type} (f : α → List D) (xs : List α) (j : Nat) (y : α) : (xs.map f).set j (f y) = (xs.set j y).map f := by rw [List.map_set]
def SlotM.dec (x : SlotM) : SlotM := if x.uses - 1 = 0 then ⟨⟨#[]⟩, 0⟩ else ⟨x.text, x.uses - 1⟩
def SlotM.inc (x : SlotM) : SlotM := ⟨x.text, x.uses + 1⟩
def probe (xs : List SlotM) (t : Str) : Nat → Int → List SlotM × Int
  | 0, _ => (xs, 0)
  | m + 1, p => match xs[(p - 1).toNat]? with
    | some x => if x.uses = 0 then (xs.set (p - 1).toNat ⟨t, 1⟩, p) else probe xs t m (textNext p)
    | none => (xs, 0)
def putM (xs : List SlotM) (t : Str) : List SlotM × Int := match fnd (fun x => seq x.text t) xs 0 with
  | none => probe xs t 8 (textPlace t)
  | some j => match xs[j]? with
    | some x => if x.uses = 99 then (xs, 0) else (xs.set j x.inc, (j : Int) + 1)
    | none => (xs, 0)
theorem fnd_lt {α : Type} {p : α → Bool} : ∀ {xs : List α} {i j : Nat}, fnd p xs i = some j → i ≤ j ∧ j < i + xs.length ∧ ∃ x, xs[j - i]? = some x ∧ p x = true
  | [], i, j, h => by cases h
  | x :: xs, i, j, h => by
    simp only [fnd] at h
    split at h
    · rename_i hp
      cases h
      exact ⟨Nat.le_refl _, by simp, x, by simp, hp⟩
    · obtain ⟨h1, h2, y, h3, h4⟩ := fnd_lt h
      refine ⟨by omega, by simp; omega, y, ?_, h4⟩
      rw [show j - i = (j - (i + 1)) + 1 by omega]
      simpa using h3
section
variable {W : CallF} {L : LoopF} {E : EqF} {T : Prop → Bool} (h : IsK G W L E T)
include h
theorem ev_drop (xs : List SlotM) (j : Nat) (x : SlotM) (hx : xs[j]? = some x) (hj : j < 1000) (hu : -1000000 ≤ x.uses ∧ x.uses ≤ 1000000) : W f_impl_drop [.hw 0, .int .i64 ((j : Int) + 1)] [.row 2 0 2 (xs.map slotD)] = some (.tup [], [.row 2 0 2 ((xs.set j x.dec).map slotD)]) := by
  have hl := lt_of_get hx
  have hw : IntKind.i64.wrap ((j : Int) + 1 - 1) = (j : Int) := by rw [wrap_id (by omega) (by omega)]; omega
  rw [h.call]; conv => lhs; whnf
  rw [hw]; conv => lhs; whnf
  rw [show decide (j < (xs.map slotD).length) = true from decide_eq_true (by simpa using hl)]
  conv => lhs; whnf
  rw [map_get (f := slotD) hx]; conv => lhs; whnf
  rw [show decide (j < (xs.map slotD).length) = true from decide_eq_true (by simpa using hl)]
  conv => lhs; whnf
  rw [map_get (f := slotD) hx]; conv => lhs; whnf
  rw [wrap_id (n := x.uses - 1) (by omega) (by omega)]
  have es : (xs.map slotD).set j (splice (slotD x) (0 + 1) [D.int IntKind.i64 (x.uses - 1)]) = (xs.set j ⟨x.text, x.uses - 1⟩).map slotD := by rw [← set_map]; rfl
  have hx1 : (xs.set j ⟨x.text, x.uses - 1⟩)[j]? = some ⟨x.text, x.uses - 1⟩ := by simp [hl]
  rw [es, hw]; conv => lhs; whnf
  rw [show decide (j < ((xs.set j ⟨x.text, x.uses - 1⟩).map slotD).length) = true from decide_eq_true (by simpa using hl)]
  conv => lhs; whnf
  rw [map_get (f := slotD) hx1]; conv => lhs; whnf
  unfold SlotM.dec
  by_cases h0 : x.uses - 1 = 0
  · rw [if_pos h0]
    have e0 : (x.uses - 1 == 0) = true := by simp [h0]
    change (match x.uses - 1 == 0 with | true => _ | false => _) = _
    rw [e0]; conv => lhs; whnf
    rw [hw]; conv => lhs; whnf
    rw [show decide (j < ((xs.set j ⟨x.text, x.uses - 1⟩).map slotD).length) = true from decide_eq_true (by simpa using hl)]
    conv => lhs; whnf
    rw [map_get (f := slotD) hx1]; conv => lhs; whnf
    have es2 : ((xs.set j ⟨x.text, x.uses - 1⟩).map slotD).set j (splice (slotD ⟨x.text, x.uses - 1⟩) 0 [D.str ⟨#[]⟩]) = (xs.set j ⟨⟨#[]⟩, 0⟩).map slotD := by
      rw [show splice (slotD ⟨x.text, x.uses - 1⟩) 0 [D.str ⟨#[]⟩] = slotD ⟨⟨#[]⟩, 0⟩ by rw [h0]; rfl, set_map, List.set_set]
    rw [es2]
  · rw [if_neg h0]
    have e0 : (x.uses - 1 == 0) = false := by simp [h0]
    change (match x.uses - 1 == 0 with | true => _ | false => _) = _
    rw [e0]; rfl
theorem probe_loop (xs : List SlotM) (hx8 : xs.length = 8) (t : Str) : ∀ m i p, i + m = 8 → inR p 1 8 = true → L (norm 1 cf144.live) (exitN 1 cf144.out (evCW W L G cf144 1 c144l0)) ⟨[(0, .hw 0), (1, .str t), (5, .int .i64 p), (13, .int .i64 ((i : Nat) : Int))], [.row 2 0 2 (xs.map slotD)]⟩ =
    some (if (probe xs t m p).2 = 0 then (.ext 0, ⟨[(4, .top)], [.row 2 0 2 ((probe xs t m p).1.map slotD)]⟩) else (.ret, ⟨[(4, .int .i64 (probe xs t m p).2)], [.row 2 0 2 ((probe xs t m p).1.map slotD)]⟩))
  | 0, i, p, hi, hp => by
    rw [h.loop]
    conv => lhs; whnf
    rw [show decide (((i : Nat) : Int) < 8) = false from decide_eq_false (by omega)]
    rfl
  | m + 1, i, p, hi, hp => by
    have hp' := hp
    simp only [inR, Bool.and_eq_true, decide_eq_true_eq] at hp'
    obtain ⟨q, rfl⟩ : ∃ q : Nat, p = (q : Int) + 1 := ⟨(p - 1).toNat, by omega⟩
    have hw : IntKind.i64.wrap ((q : Int) + 1 - 1) = (q : Int) := by rw [wrap_id (by omega) (by omega)]; omega
    have hq : ((q : Int) + 1 - 1).toNat = q := by omega
    obtain ⟨x, hx⟩ := get_some (xs := xs) (i := q) (by omega)
    rw [h.loop]
    conv => lhs; whnf
    rw [show decide (((i : Nat) : Int) < 8) = true from decide_eq_true (by omega)]
    conv => lhs; whnf
    rw [hw]; conv => lhs; whnf
    rw [show decide (q < (xs.map slotD).length) = true from decide_eq_true (by simp; omega)]
    conv => lhs; whnf
    rw [map_get (f := slotD) hx]; conv => lhs; whnf
    simp only [probe, hq, hx]
    change (match x.uses == 0 with | true => _ | false => _) = _
    by_cases h0 : x.uses = 0
    · simp only [if_pos h0]
      rw [if_neg (by omega)]
      rw [show (x.uses == 0) = true by simp [h0]]; conv => lhs; whnf
      rw [hw]; conv => lhs; whnf
      rw [show decide (q < (xs.map slotD).length) = true from decide_eq_true (by simp; omega)]
      conv => lhs; whnf
      rw [map_get (f := slotD) hx]; conv => lhs; whnf
      rw [show (xs.map slotD).set q (splice (slotD x) 0 [D.str t, D.int IntKind.i64 1]) = (xs.set q ⟨t, 1⟩).map slotD by rw [← set_map]; rfl]
    · simp only [if_neg h0]
      rw [show (x.uses == 0) = false by simp [h0]]; conv => lhs; whnf
      rw [ev_TextNext h _ hp]; conv => lhs; whnf
      rw [wrap_succ (by omega), probe_loop xs hx8 t m (i + 1) _ (by omega) (by have := textNext_range hp'.1; simp [inR]; omega)]
theorem ev_put (xs : List SlotM) (hx8 : xs.length = 8) (hu : ∀ x ∈ xs, -1000000 ≤ x.uses ∧ x.uses ≤ 1000000) (t : Str) (ht : textOk t = true) : W f_impl_put [.hw 0, .str t] [.row 2 0 2 (xs.map slotD)] = some (.int .i64 (putM xs t).2, [.row 2 0 2 ((putM xs t).1.map slotD)]) := by
  have e := probe_loop h xs hx8 t 8 0 (textPlace t) (by omega) (by have := textPlace_range ht; simp [inR]; omega)
  rw [nc0] at e
  rw [h.call]; conv => lhs; whnf
  rw [ev_find h xs (by omega) t]; conv => lhs; whnf
  unfold putM
  cases hf : fnd (fun x => seq x.text t) xs 0 with
  | none =>
    rw [show IntKind.i64.wrap (fndI none + 1) = 0 from rfl]; conv => lhs; whnf
    rw [ev_TextPlace h t ht]; conv => lhs; whnf
    rw [e]
    simp only
    generalize probe xs t 8 (textPlace t) = r
    by_cases h0 : r.2 = 0
    · rw [if_pos h0, h0]; rfl
    · rw [if_neg h0]; rfl
  | some j =>
    clear e
    obtain ⟨_, hj, x, hx, _⟩ := fnd_lt hf
    rw [Nat.sub_zero] at hx
    have hw1 : IntKind.i64.wrap (fndI (some j) + 1) = (j : Int) + 1 := by rw [fndI, wrap_id (by omega) (by omega)]
    have hw : IntKind.i64.wrap ((j : Int) + 1 - 1) = (j : Int) := by rw [wrap_id (by omega) (by omega)]; omega
    have hux := hu x (List.mem_of_getElem? hx)
    have hd : decide (j < (xs.map slotD).length) = true := decide_eq_true (by simp; omega)
    rw [hw1]; conv => lhs; whnf
    rw [show ((j : Int) + 1 == 0) = false by simp; omega]; conv => lhs; whnf
    rw [hw]; conv => lhs; whnf
    rw [hd]; conv => lhs; whnf
    rw [map_get (f := slotD) hx]; conv => lhs; whnf
    simp only [hx]
    change (match x.uses == 99 with | true => _ | false => _) = _
    by_cases h0 : x.uses = 99
    · rw [if_pos h0, show (x.uses == 99) = true by simp [h0]]; rfl
    · rw [if_neg h0, show (x.uses == 99) = false by simp [h0]]; conv => lhs; whnf
      rw [hw]; conv => lhs; whnf
      rw [hd]; conv => lhs; whnf
      rw [map_get (f := slotD) hx]; conv => lhs; whnf
      rw [hd]; conv => lhs; whnf
      rw [map_get (f := slotD) hx]; conv => lhs; whnf
      rw [wrap_id (n := x.uses + 1) (by omega) (by omega), show (xs.map slotD).set j (splice (slotD x) (0 + 1) [D.int IntKind.i64 (x.uses + 1)]) = (xs.set j x.inc).map slotD by rw [← set_map]; rfl]
end
end Go.Gn

namespace Go.Gn
open Go
set_option linter.unusedVariables false
set_option linter.unusedSimpArgs false
set_option maxRecDepth 100000
def inAll (lo hi : Int) (bs : List Int) : Bool := bs.all fun b => inR b lo hi
def volOk (v : VolM) : Bool := inAll 0 8 v.blocks && (isName v.name && inR v.blocks.length 1 6)
def cnt (bs : List Int) (p : Int) : Int := ((bs.filter fun b => b == p).length : Nat)
theorem inAll_cons (lo hi x : Int) (xs : List Int) : inAll lo hi (x :: xs) = (inR x lo hi && inAll lo hi xs) := rfl
theorem cnt_cons (x p : Int) (xs : List Int) : cnt (x :: xs) p = (if (x == p) = true then 1 else 0) + cnt xs p := by
  unfold cnt
  rw [List.filter_cons]
  split
  · simp; omega
  · simp
theorem cnt_range (bs : List Int) (p : Int) : 0 ≤ cnt bs p ∧ cnt bs p ≤ bs.length := by
  have := List.length_filter_le (fun b => b == p) bs
  unfold cnt; omega
section
variable {W : CallF} {L : LoopF} {E : EqF} {T : Prop → Bool} (h : IsK G W L E T)
include h
theorem volOk_loop (nm : Str) (bs : List Int) (hl : bs.length < 4611686018427387904) : ∀ m i, i + m = bs.length → L (norm 0 cf133.live) (exitN 0 cf133.out (evCW W L G cf133 0 c133l0)) ⟨[(1, .ptr 0 0), (6, .sl .br (bs.map intD)), (7, .int .i64 ((bs.map intD).length : Nat)), (8, .int .i64 (i : Nat))], [.box [.str nm, .sl .br (bs.map intD)]]⟩ =
    some (if inAll 0 8 (bs.drop i) then (.ext 0, ⟨[(1, .ptr 0 0), (2, .top)], [.box [.str nm, .sl .br (bs.map intD)]]⟩) else (.ret, ⟨[(1, .ptr 0 0), (2, .bool false)], [.box [.str nm, .sl .br (bs.map intD)]]⟩))
  | 0, i, hm => by
    rw [h.loop, List.drop_eq_nil_of_le (show bs.length ≤ i by omega)]
    repeat (conv => lhs; whnf; arg 2; tactic => first | exact g1 | exact g2)
    rfl
  | m + 1, i, hm => by
    obtain ⟨x, hx⟩ := get_some (xs := bs) (i := i) (by omega)
    rw [h.loop, drop_cons hx]
    repeat (conv => lhs; whnf; arg 2; tactic => first | exact g1 | exact map_get hx | exact ev_within h _ _ _ | exact g2)
    conv => lhs; whnf
    rw [inAll_cons]
    cases hr : inR x 0 8
    · rfl
    · conv => lhs; whnf
      rw [wrap_succ (by omega), volOk_loop nm bs hl m (i + 1) (by omega)]
      rfl
theorem ev_VolOk (nm : Str) (bs : List Int) (hl : bs.length < 4611686018427387904) : W f_impl_VolOk [.agg [.str nm, .sl .br (bs.map intD)]] [] = some (.bool (volOk ⟨nm, bs⟩), []) := by
  have e := volOk_loop h nm bs hl bs.length 0 (by omega)
  rw [nc0, List.drop_zero] at e
  unfold volOk
  rw [h.call]
  conv => lhs; whnf
  rw [e]; clear e
  have hi : inR ((bs.map intD).length : Nat) 1 6 = inR bs.length 1 6 := by rw [List.length_map]
  simp only
  cases inAll 0 8 bs
  · rfl
  · conv => lhs; whnf
    rw [ev_isName h]
    cases isName nm
    · rfl
    · conv => lhs; whnf
      rw [ev_within h, hi]
      rfl
theorem uses_loop (bs : List Int) (hl : bs.length < 4611686018427387904) (p : Int) : ∀ (m i : Nat) (acc : Int), i + m = bs.length → 0 ≤ acc → acc ≤ i → L (norm 0 cf134.live) (exitN 0 cf134.out (evCW W L G cf134 0 c134l0)) ⟨[(1, .int .i64 p), (5, .int .i64 acc), (9, .sl .br (bs.map intD)), (10, .int .i64 ((bs.map intD).length : Nat)), (11, .int .i64 (i : Nat))], []⟩ =
    some (.ext 0, ⟨[(4, .top), (5, .int .i64 (acc + cnt (bs.drop i) p))], []⟩)
  | 0, i, acc, hm, h1, h2 => by
    rw [h.loop, List.drop_eq_nil_of_le (show bs.length ≤ i by omega)]
    repeat (conv => lhs; whnf; arg 2; tactic => first | exact g1 | exact g2)
    rw [show acc + cnt [] p = acc by simp [cnt]]
    rfl
  | m + 1, i, acc, hm, h1, h2 => by
    obtain ⟨x, hx⟩ := get_some (xs := bs) (i := i) (by omega)
    rw [h.loop, drop_cons hx, cnt_cons]
    repeat (conv => lhs; whnf; arg 2; tactic => first | exact g1 | exact map_get hx | exact g2)
    conv => lhs; whnf
    cases hr : x == p
    · conv => lhs; whnf
      rw [wrap_succ (by omega), uses_loop bs hl p m (i + 1) acc (by omega) h1 (by omega), if_neg (by simp), Int.zero_add]
    · conv => lhs; whnf
      rw [wrap_succ (by omega), wrap_id (n := acc + 1) (by omega) (by omega), uses_loop bs hl p m (i + 1) (acc + 1) (by omega) (by omega) (by omega), if_pos rfl, Int.add_assoc]
theorem ev_uses (nm : Str) (bs : List Int) (hl : bs.length < 4611686018427387904) (p : Int) : W f_impl_Vol_uses [.agg [.str nm, .sl .br (bs.map intD)], .int .i64 p] [] = some (.int .i64 (cnt bs p), []) := by
  have e := uses_loop h bs hl p bs.length 0 0 (by omega) (by omega) (by omega)
  rw [nc0, List.drop_zero, Int.zero_add] at e
  rw [h.call]
  conv => lhs; whnf
  rw [e]; clear e
  rfl
end
end Go.Gn

namespace Go.Gn
open Go
set_option linter.unusedVariables false
set_option linter.unusedSimpArgs false
set_option maxRecDepth 100000
def noText : Str := ⟨#[]⟩
def slotOk (pre : List SlotM) (x : SlotM) : Bool := textOk x.text && (inR x.uses 0 99 && (!(!(seq x.text noText == (x.uses == 0))) && !(!(seq x.text noText) && decide (fndI (fnd (fun y : SlotM => seq y.text x.text) pre 0) ≥ 0))))
def storeOkL (xs : List SlotM) : Nat → Nat → Bool
  | 0, _ => true
  | m + 1, i => match xs[i]? with
    | some x => slotOk (xs.take i) x && storeOkL xs m (i + 1)
    | none => false
def storeOk (xs : List SlotM) : Bool := storeOkL xs xs.length 0 && ((xs.length : Int) == 8)
def StoreSz (xs : List SlotM) : Prop := xs.length < 4611686018427387904 ∧ ∀ x ∈ xs, x.text.size < 4611686018427387904
theorem view_take {α : Type} (f : α → List D) (xs : List α) (i : Nat) : view (xs.map f) 0 (i - 0) = (xs.take i).map f := by simp [view]
section
variable {W : CallF} {L : LoopF} {E : EqF} {T : Prop → Bool} (h : IsK G W L E T)
include h
theorem storeOk_loop (xs : List SlotM) (hs : StoreSz xs) : ∀ m i, i + m = xs.length → L (norm 0 cf132.live) (exitN 0 cf132.out (evCW W L G cf132 0 c132l0)) ⟨[(0, .sl .br (xs.map slotD)), (5, .sl .br (xs.map slotD)), (6, .int .i64 ((xs.map slotD).length : Nat)), (7, .int .i64 (i : Nat))], []⟩ =
    some (if storeOkL xs m i then (.ext 0, ⟨[(0, .sl .br (xs.map slotD)), (2, .top)], []⟩) else (.ret, ⟨[(0, .sl .br (xs.map slotD)), (2, .bool false)], []⟩))
  | 0, i, hm => by
    rw [h.loop]
    repeat (conv => lhs; whnf; arg 2; tactic => first | exact g1 | exact g2)
    rfl
  | m + 1, i, hm => by
    obtain ⟨x, hx⟩ := get_some (xs := xs) (i := i) (by omega)
    have hxs := hs.2 x (List.mem_of_getElem? hx)
    have hl := hs.1
    have hk : (xs.take i).length < 4611686018427387904 := by simp; omega
    have hc := ev_containsSlot h (xs.take i) hk x
    rw [← view_take] at hc
    rw [h.loop]
    simp only [storeOkL, hx]
    repeat (conv => lhs; whnf; arg 2; tactic => first | exact g1 | exact map_get hx | exact ev_TextOk h _ hxs | exact g2)
    unfold slotOk
    conv => lhs; whnf
    cases textOk x.text
    · rfl
    · repeat (conv => lhs; whnf; arg 2; tactic => first | exact g1 | exact ev_within h _ _ _ | exact g2)
      conv => lhs; whnf
      cases inR x.uses 0 99
      · rfl
      · cases hz : !(seq x.text noText == (x.uses == 0))
        · cases hq : seq x.text noText
          · cases hf : decide (fndI (fnd (fun y : SlotM => seq y.text x.text) (xs.take i) 0) ≥ 0)
            · repeat (conv => lhs; whnf; arg 2; tactic => first | exact g1 | exact hz | exact congrArg not hq | exact hc | exact hf | exact congrArg not hz | exact congrArg not hc | exact congrArg not hf | exact g2)
              conv => lhs; whnf
              rw [wrap_succ (by omega), storeOk_loop xs hs m (i + 1) (by omega)]
              rfl
            · repeat (conv => lhs; whnf; arg 2; tactic => first | exact g1 | exact hz | exact congrArg not hq | exact hc | exact hf | exact congrArg not hz | exact congrArg not hc | exact congrArg not hf | exact g2)
              rfl
          · repeat (conv => lhs; whnf; arg 2; tactic => first | exact g1 | exact hz | exact congrArg not hq | exact congrArg not hz | exact g2)
            conv => lhs; whnf
            rw [wrap_succ (by omega), storeOk_loop xs hs m (i + 1) (by omega)]
            rfl
        · repeat (conv => lhs; whnf; arg 2; tactic => first | exact g1 | exact hz | exact congrArg not hz | exact g2)
          rfl
theorem ev_StoreOk (xs : List SlotM) (hs : StoreSz xs) : W f_impl_StoreOk [.sl .br (xs.map slotD)] [] = some (.bool (storeOk xs), []) := by
  have e := storeOk_loop h xs hs xs.length 0 (by omega)
  rw [nc0] at e
  unfold storeOk
  rw [h.call]
  conv => lhs; whnf
  rw [e]; clear e
  have hi : (((xs.map slotD).length : Nat) : Int) = xs.length := by rw [List.length_map]
  cases storeOkL xs xs.length 0
  · rfl
  · conv => lhs; whnf
    rw [hi]
    rfl
end
end Go.Gn

namespace Go.Gn
open Go
set_option linter.unusedVariables false
set_option linter.unusedSimpArgs false
set_option maxRecDepth 100000
set_option maxHeartbeats 8000000
def geq (a b : Str) : Bool := !(Op.bytesLess a.toList b.toList)
def volsOkL (vs : List VolM) : Nat → Nat → Bool
  | 0, _ => true
  | m + 1, i => match vs[i]? with
    | some v => volOk v && ((match i with | 0 => true | j + 1 => match vs[j]? with | some u => !(geq u.name v.name) | none => false) && volsOkL vs m (i + 1))
    | none => false
def sumU (p : Int) : List VolM → Int
  | [] => 0
  | v :: vs => cnt v.blocks p + sumU p vs
def usesOkL (xs : List SlotM) (vs : List VolM) : Nat → Nat → Bool
  | 0, _ => true
  | m + 1, i => match xs[i]? with
    | some x => (sumU ((i : Int) + 1) vs == x.uses) && usesOkL xs vs m (i + 1)
    | none => false
def poolOk (p : PoolM) : Bool := storeOk p.slots && (!(decide ((p.vols.length : Int) > 4)) && (volsOkL p.vols p.vols.length 0 && usesOkL p.slots p.vols 8 0))
def VolsSz (vs : List VolM) : Prop := vs.length < 4611686018427387904 ∧ ∀ v ∈ vs, v.blocks.length < 4611686018427387904
structure PoolSz (p : PoolM) : Prop where
  s : StoreSz p.slots
  v : VolsSz p.vols
abbrev boxP (p : PoolM) : Obj := .box [.sl .br (p.slots.map slotD), .sl .br (p.vols.map volD)]
theorem wrap_pred {j : Nat} (hj : j < 4611686018427387904) : IntKind.i64.wrap (((j + 1 : Nat) : Int) - 1) = (j : Int) := by
  rw [wrap_id (by omega) (by omega)]; omega
theorem sumU_range (p : Int) : ∀ (vs : List VolM) (n : Nat), (∀ v ∈ vs, v.blocks.length ≤ n) → 0 ≤ sumU p vs ∧ sumU p vs ≤ vs.length * n
  | [], n, _ => by simp [sumU]
  | v :: vs, n, h => by
    have h1 := cnt_range v.blocks p
    have h2 := h v (by simp)
    have h3 := sumU_range p vs n (fun u hu => h u (by simp [hu]))
    have e : ((v :: vs).length : Int) * n = n + vs.length * n := by rw [List.length_cons, Int.natCast_add, Int.add_mul]; omega
    simp only [sumU]
    rw [e]
    omega
section
variable {W : CallF} {L : LoopF} {E : EqF} {T : Prop → Bool} (h : IsK G W L E T)
include h
theorem vols_loop (p : PoolM) (hs : VolsSz p.vols) : ∀ m i, i + m = p.vols.length → L (norm 0 cf88.live) (exitN 0 cf88.out (evCW W L G cf88 0 c88l2)) ⟨[(1, .ptr 0 0), (5, .un), (6, .un), (20, .sl .br (p.vols.map volD)), (21, .int .i64 ((p.vols.map volD).length : Nat)), (22, .int .i64 (i : Nat)), (52, .un), (53, .un), (54, .un)], [boxP p]⟩ =
    some (if volsOkL p.vols m i then (.ext 0, ⟨[(1, .ptr 0 0), (2, .top), (5, .un), (6, .un)], [boxP p]⟩) else (.ret, ⟨[(1, .ptr 0 0), (2, .bool false), (5, .un), (6, .un)], [boxP p]⟩))
  | 0, i, hm => by
    rw [h.loop]
    repeat (conv => lhs; whnf; arg 2; tactic => first | exact g1 | exact g2)
    rfl
  | m + 1, i, hm => by
    obtain ⟨v, hv⟩ := get_some (xs := p.vols) (i := i) (by omega)
    have hvs := hs.2 v (List.mem_of_getElem? hv)
    have hl := hs.1
    rw [h.loop]
    simp only [volsOkL, hv]
    repeat (conv => lhs; whnf; arg 2; tactic => first | exact g1 | exact map_get hv | exact ev_VolOk h _ _ hvs | exact g2)
    conv => lhs; whnf
    have ev : (⟨v.name, v.blocks⟩ : VolM) = v := rfl
    rw [ev]
    cases hvo : volOk v
    · rfl
    · cases i with
      | zero =>
        repeat (conv => lhs; whnf; arg 2; tactic => first | exact g1 | exact g2)
        conv => lhs; whnf
        rw [wrap_succ (by omega), vols_loop p hs m (0 + 1) (by omega)]
        rfl
      | succ j =>
        obtain ⟨u, hu⟩ := get_some (xs := p.vols) (i := j) (by omega)
        simp only [hu]
        cases hg : geq u.name v.name
        · repeat (conv => lhs; whnf; arg 2; tactic => first | exact g1 | exact wrap_pred (by omega) | exact map_get hu | exact hg | exact congrArg not hg | exact g2)
          conv => lhs; whnf
          rw [wrap_succ (by omega), vols_loop p hs m (j + 1 + 1) (by omega)]
          rfl
        · repeat (conv => lhs; whnf; arg 2; tactic => first | exact g1 | exact wrap_pred (by omega) | exact map_get hu | exact hg | exact congrArg not hg | exact g2)
          rfl
theorem sum_loop (p : PoolM) (n : Nat) (hn : ∀ v ∈ p.vols, v.blocks.length ≤ 6) (hl : p.vols.length ≤ 4) (k : Nat) : ∀ (m i : Nat) (acc : Int), i + m = p.vols.length → 0 ≤ acc → acc ≤ i * 6 → L (norm 0 cf88.live) (exitN 0 cf88.out (evCW W L G cf88 0 c88l0)) ⟨[(1, .ptr 0 0), (5, .int .i64 ((k : Nat) + 1)), (6, .int .i64 acc), (20, .top), (21, .top), (22, .top), (52, .sl .br (p.vols.map volD)), (53, .int .i64 ((p.vols.map volD).length : Nat)), (54, .int .i64 (i : Nat))], [boxP p]⟩ =
    some (.ext 4, ⟨[(1, .ptr 0 0), (2, .top), (5, .int .i64 ((k : Nat) + 1)), (6, .int .i64 (acc + sumU ((k : Int) + 1) (p.vols.drop i)))], [boxP p]⟩)
  | 0, i, acc, hm, h1, h2 => by
    rw [h.loop, List.drop_eq_nil_of_le (show p.vols.length ≤ i by omega)]
    repeat (conv => lhs; whnf; arg 2; tactic => first | exact g1 | exact g2)
    rw [show acc + sumU ((k : Int) + 1) [] = acc by simp [sumU]]
    rfl
  | m + 1, i, acc, hm, h1, h2 => by
    obtain ⟨v, hv⟩ := get_some (xs := p.vols) (i := i) (by omega)
    have hvs := hn v (List.mem_of_getElem? hv)
    have hc := cnt_range v.blocks ((k : Int) + 1)
    rw [h.loop, drop_cons hv]
    repeat (conv => lhs; whnf; arg 2; tactic => first | exact g1 | exact map_get hv | exact ev_uses h _ _ (by omega) _ | exact g2)
    conv => lhs; whnf
    rw [wrap_succ (by omega), wrap_id (n := acc + cnt v.blocks ((k : Int) + 1)) (by omega) (by omega), sum_loop p n hn hl k m (i + 1) (acc + cnt v.blocks ((k : Int) + 1)) (by omega) (by omega) (by omega)]
    rw [sumU, Int.add_assoc]
theorem uses_loop2 (p : PoolM) (h8 : p.slots.length = 8) (hn : ∀ v ∈ p.vols, v.blocks.length ≤ 6) (hl : p.vols.length ≤ 4) : ∀ (m i : Nat) (a6 : AV), (a6 = .un ∨ ∃ k, a6 = .int .i64 k) → i + m = 8 → ∃ b5 b6, L (norm 0 cf88.live) (exitN 0 cf88.out (evCW W L G cf88 0 c88l1)) ⟨[(1, .ptr 0 0), (5, .int .i64 ((i : Nat) + 1)), (6, a6), (20, .top), (21, .top), (22, .top), (52, .top), (53, .top), (54, .top)], [boxP p]⟩ =
    some (if usesOkL p.slots p.vols m i then (.ext 2, ⟨[(1, .ptr 0 0), (2, .top), (5, b5), (6, b6)], [boxP p]⟩) else (.ret, ⟨[(1, .ptr 0 0), (2, .bool false), (5, b5), (6, b6)], [boxP p]⟩))
  | 0, i, a6, ha, hm => by
    refine ⟨.int .i64 ((i : Nat) + 1), a6, ?_⟩
    rw [h.loop]
    rcases ha with rfl | ⟨k, rfl⟩
    · repeat (conv => lhs; whnf; arg 2; tactic => first | exact g1 | exact g2)
      rfl
    · repeat (conv => lhs; whnf; arg 2; tactic => first | exact g1 | exact g2)
      rfl
  | m + 1, i, a6, ha, hm => by
    obtain ⟨x, hx⟩ := get_some (xs := p.slots) (i := i) (by omega)
    have e := sum_loop h p 0 hn hl i p.vols.length 0 0 (by omega) (by omega) (by omega)
    rw [nc0, List.drop_zero, Int.zero_add] at e
    rw [h.loop]
    simp only [usesOkL, hx]
    rcases ha with rfl | ⟨k, rfl⟩
    all_goals
     cases hu : (sumU ((i : Int) + 1) p.vols == x.uses)
     · refine ⟨.int .i64 ((i : Nat) + 1), .int .i64 (sumU ((i : Int) + 1) p.vols), ?_⟩
       repeat (conv => lhs; whnf; arg 2; tactic => first | exact g1 | exact e | exact map_get hx | exact congrArg not hu | exact congrArg not e | exact g2)
       rfl
     · obtain ⟨b5, b6, ih⟩ := uses_loop2 p h8 hn hl m (i + 1) (.int .i64 (sumU ((i : Int) + 1) p.vols)) (.inr ⟨_, rfl⟩) (by omega)
       refine ⟨b5, b6, ?_⟩
       repeat (conv => lhs; whnf; arg 2; tactic => first | exact g1 | exact e | exact map_get hx | exact congrArg not hu | exact congrArg not e | exact g2)
       conv => lhs; whnf
       rw [wrap_id (n := (i : Int) + 1 + 1) (by omega) (by omega)]
       exact ih
omit h in
theorem volsOkL_len {vs : List VolM} : ∀ {m i : Nat}, volsOkL vs m i = true → ∀ j, i ≤ j → j < i + m → ∀ v, vs[j]? = some v → volOk v = true
  | 0, i, _, j, h1, h2, v, hv => by omega
  | m + 1, i, hk, j, h1, h2, v, hv => by
    simp only [volsOkL] at hk
    split at hk
    · rename_i u hu
      simp only [Bool.and_eq_true] at hk
      by_cases hij : j = i
      · subst hij; rw [hu] at hv; cases hv; exact hk.1
      · exact volsOkL_len hk.2.2 j (by omega) (by omega) v hv
    · cases hk
omit h in
theorem volOk_len {v : VolM} (hv : volOk v = true) : 1 ≤ v.blocks.length ∧ v.blocks.length ≤ 6 := by
  simp only [volOk, inR, Bool.and_eq_true, decide_eq_true_eq] at hv
  omega
theorem ev_PoolOk (p : PoolM) (hs : PoolSz p) : W f_impl_PoolOk [poolA p] [] = some (.bool (poolOk p), []) := by
  unfold poolOk
  have e1 := vols_loop h p hs.v p.vols.length 0 (by omega)
  rw [nc0] at e1
  rw [h.call]
  repeat (conv => lhs; whnf; arg 2; tactic => first | exact g1 | exact ev_StoreOk h _ hs.s | exact g2)
  conv => lhs; whnf
  cases hso : storeOk p.slots
  · rfl
  · cases hl : decide ((p.vols.length : Int) > 4)
    · have hlen : decide (((p.vols.map volD).length : Int) > 4) = false := by rw [List.length_map]; exact hl
      cases hv : volsOkL p.vols p.vols.length 0
      · rw [hv] at e1
        repeat (conv => lhs; whnf; arg 2; tactic => first | exact g1 | exact hlen | exact e1 | exact congrArg not hlen | exact congrArg not e1 | exact g2)
        rfl
      · rw [hv] at e1
        simp only [decide_eq_false_iff_not] at hl
        simp only [storeOk, Bool.and_eq_true, beq_iff_eq] at hso
        obtain ⟨b5, b6, e2⟩ := uses_loop2 h p (by omega) (fun v hm => by
          obtain ⟨j, hj⟩ := List.getElem?_of_mem hm
          exact (volOk_len (volsOkL_len hv j (by omega) (by have := lt_of_get hj; omega) v hj)).2) (by omega) 8 0 .un (.inl rfl) (by omega)
        rw [nc0, Int.zero_add] at e2
        repeat (conv => lhs; whnf; arg 2; tactic => first | exact g1 | exact hlen | exact e1 | exact e2 | exact congrArg not hlen | exact congrArg not e1 | exact congrArg not e2 | exact g2)
        conv => lhs; whnf
        simp only
        cases usesOkL p.slots p.vols 8 0 <;> rfl
    · have hlen : decide (((p.vols.map volD).length : Int) > 4) = true := by rw [List.length_map]; exact hl
      repeat (conv => lhs; whnf; arg 2; tactic => first | exact g1 | exact hlen | exact congrArg not hlen | exact g2)
      rfl
end
end Go.Gn

namespace Go.Gn
open Go
set_option linter.unusedVariables false
set_option linter.unusedSimpArgs false
set_option maxRecDepth 100000
theorem set_same {α : Type} (f : α → List D) {xs : List α} {i : Nat} {v : α} (hv : xs[i]? = some v) : (xs.map f).set i (f v) = xs.map f := by
  rw [set_map]
  congr 1
  apply List.ext_getElem?
  intro j
  rw [List.getElem?_set]
  split
  · rename_i hj
    subst hj
    obtain ⟨h1, h2⟩ := List.getElem?_eq_some_iff.1 hv
    simp [h1, h2]
  · rfl
theorem scrub_map {α : Type} (f : α → List D) (hf : ∀ a, (f a).map D.scrub = f a) (xs : List α) : cloneD .br (xs.map f) = xs.map f := by
  unfold cloneD
  rw [List.map_map]
  exact List.map_congr_left fun a _ => hf a
def volIx (vs : List VolM) (n : Str) : Option Nat := fnd (fun v : VolM => seq v.name n) vs 0
def poolDs (p : PoolM) : List D := [.sl (p.slots.map slotD), .sl (p.vols.map volD)]
section
variable {W : CallF} {L : LoopF} {E : EqF} {T : Prop → Bool} (h : IsK G W L E T)
include h
omit h in
theorem bodyX {f : Nat} {cf : CF} {g : List AV → List Obj → Option (AV × List Obj)} (hG : G f = some cf) (hx : cf.ext = some g) (hi : cf.inl = false) (args : List AV) (os : List Obj) : bodyK W L E T G f args os = g args os := by
  unfold bodyK
  simp only [hG, hx, hi]
theorem ev_cloneOp (xs : List OpM) (hl : xs.length * 64 ≤ 140737488355328) : W f_slices_Clone_Op [.sl .br (xs.map opD)] [] = some (.hw 0, [.row 5 0 5 (xs.map opD)]) := by
  rw [h.call, bodyX rfl (cf := cf99) (g := cloneX 5 64 5) rfl rfl, cloneX, if_pos ⟨szOk_map opD 5 (fun _ => rfl) xs, by rw [List.length_map]; exact hl⟩, scrub_map opD (fun _ => rfl)]
theorem ev_cloneSlot (xs : List SlotM) (hl : xs.length * 24 ≤ 140737488355328) : W f_slices_Clone_Slot [.sl .br (xs.map slotD)] [] = some (.hw 0, [.row 2 0 2 (xs.map slotD)]) := by
  rw [h.call, bodyX rfl (cf := cf182) (g := cloneX 2 24 2) rfl rfl, cloneX, if_pos ⟨szOk_map slotD 2 (fun _ => rfl) xs, by rw [List.length_map]; exact hl⟩, scrub_map slotD (fun _ => rfl)]
theorem ev_cloneInt (xs : List Int) (hl : xs.length * 8 ≤ 140737488355328) : W f_slices_Clone_int [.sl .br (xs.map intD)] [] = some (.hw 0, [.row 1 0 1 (xs.map intD)]) := by
  rw [h.call, bodyX rfl (cf := cf146) (g := cloneX 1 8 1) rfl rfl, cloneX, if_pos ⟨szOk_map intD 1 (fun _ => rfl) xs, by rw [List.length_map]; exact hl⟩, scrub_map intD (fun _ => rfl)]
theorem ev_cloneVol (xs : List VolM) (hl : xs.length * 40 ≤ 140737488355328) : W f_slices_Clone_Vol [.sl .sh (xs.map volD)] [] = some (.hw 0, [.row 2 0 1 (xs.map volD)]) := by
  rw [h.call, bodyX rfl (cf := cf183) (g := cloneX 2 40 1) rfl rfl, cloneX, if_pos ⟨szOk_map volD 2 (fun _ => rfl) xs, by rw [List.length_map]; exact hl⟩]
  rfl
theorem indexVol_loop (xs : List VolM) (hl : xs.length < 4611686018427387904) (f : Nat) (cf : CF) (ds : List D) (p : VolM → Bool) (hG : G f = some cf) (hi : cf.inl = false) (hr : cf.byRef = [])
    (hp : ∀ x : VolM, W f [.agg [.str x.name, .sl .br (x.blocks.map intD)], .ep .br ds 0] [] = some (.bool (p x), [])) : ∀ m i, i + m = xs.length → L (norm 0 cf172.live) (exitN 0 cf172.out (evCW W L G cf172 0 c172l0)) ⟨[(0, .sl .br (xs.map volD)), (1, .fn f [.ep .br ds 0]), (7, .int .i64 ((xs.map volD).length : Nat)), (8, .int .i64 i)], []⟩ =
    some (match fnd p (xs.drop i) i with | none => (.ext 0, ⟨[(4, .top)], []⟩) | some j => (.ret, ⟨[(4, .int .i64 j)], []⟩))
  | 0, i, hm => by
    rw [h.loop, List.drop_eq_nil_of_le (show xs.length ≤ i by omega)]
    repeat (conv => lhs; whnf; arg 2; tactic => first | exact g1 | exact g2)
    rfl
  | m + 1, i, hm => by
    obtain ⟨x, hx⟩ := get_some (xs := xs) (i := i) (by omega)
    rw [h.loop, drop_cons hx]
    repeat (conv => lhs; whnf; arg 2; tactic => first | exact g1 | exact map_get hx | exact hG | exact hi | exact congrArg not hG | exact congrArg not hi | exact g2)
    conv => lhs; whnf
    rw [hr]
    repeat (conv => lhs; whnf; arg 2; tactic => first | exact g1 | exact hp x | exact g2)
    conv => lhs; whnf
    simp only [fnd]
    cases p x
    · conv => lhs; whnf
      rw [wrap_succ (by omega), indexVol_loop xs hl f cf ds p hG hi hr hp m (i + 1) (by omega)]
    · rfl
theorem ev_indexVol (xs : List VolM) (hl : xs.length < 4611686018427387904) (f : Nat) (cf : CF) (ds : List D) (p : VolM → Bool) (hG : G f = some cf) (hi : cf.inl = false) (hr : cf.byRef = [])
    (hp : ∀ x : VolM, W f [.agg [.str x.name, .sl .br (x.blocks.map intD)], .ep .br ds 0] [] = some (.bool (p x), [])) : W f_slices_IndexFunc_Vol [.sl .br (xs.map volD), .fn f [.ep .br ds 0]] [] = some (.int .i64 (fndI (fnd p xs 0)), []) := by
  rw [h.call]; conv => lhs; whnf
  have e := indexVol_loop h xs hl f cf ds p hG hi hr hp xs.length 0 (by omega)
  rw [nc0] at e; rw [e]; clear e
  rw [List.drop_zero]
  cases fnd p xs 0 <;> rfl
theorem ev_vol_c1 (x : VolM) (t : Str) : W f_impl_Pool_vol_c1 [.agg [.str x.name, .sl .br (x.blocks.map intD)], .ep .br [.str t] 0] [] = some (.bool (seq x.name t), []) := by
  rw [h.call]; conv => lhs; whnf
  rfl
theorem ev_vol (p : PoolM) (hl : p.vols.length < 4611686018427387904) (n : Str) : W f_impl_Pool_vol [poolA p, .str n] [] = some (.int .i64 (fndI (volIx p.vols n)), []) := by
  rw [h.call]; conv => lhs; whnf
  rw [ev_indexVol h p.vols hl _ cf173 _ (fun v => seq v.name n) rfl rfl rfl (fun x => ev_vol_c1 h x n)]
  rfl
theorem clone_loop (p : PoolM) (hs : VolsSz p.vols) (hb : ∀ v ∈ p.vols, v.blocks.length * 8 ≤ 140737488355328) : ∀ m i, i + m = p.vols.length → L (norm 0 cf150.live) (exitN 0 cf150.out (evCW W L G cf150 0 c150l0)) ⟨[(2, .ptr 0 0), (3, .ptr 1 0), (14, .int .i64 ((p.vols.map volD).length : Nat)), (15, .int .i64 (i : Nat))], [.box [.nils, .nils], .box [.hw 2, .hw 3], .row 2 0 2 (p.slots.map slotD), .row 2 i 1 (p.vols.map volD)]⟩ =
    some (.ext 0, ⟨[(2, .ptr 0 0), (3, .ptr 1 0)], [.box [.nils, .nils], .box [.hw 2, .hw 3], .row 2 0 2 (p.slots.map slotD), .row 2 p.vols.length 1 (p.vols.map volD)]⟩)
  | 0, i, hm => by
    have : i = p.vols.length := by omega
    subst this
    rw [h.loop]
    repeat (conv => lhs; whnf; arg 2; tactic => first | exact g1 | exact g2)
    rfl
  | m + 1, i, hm => by
    obtain ⟨v, hv⟩ := get_some (xs := p.vols) (i := i) (by omega)
    have hvb := hb v (List.mem_of_getElem? hv)
    have hl := hs.1
    rw [h.loop]
    repeat (conv => lhs; whnf; arg 2; tactic => first | exact g1 | exact map_get hv | exact ev_cloneInt h _ hvb | exact g2)
    conv => lhs; whnf
    rw [wrap_succ (by omega)]
    have e1 : (volD v).set 1 (.sl (v.blocks.map intD)) = volD v := rfl
    rw [e1, set_same volD hv, clone_loop p hs hb m (i + 1) (by omega)]
omit h in
theorem flat_slots (k : Nat) (xs : List SlotM) : (Obj.row 2 k 2 (xs.map slotD)).flat = true := by
  simp only [Obj.flat, Bool.or_eq_true, List.all_eq_true]
  right
  intro el hel d hd
  obtain ⟨x, _, rfl⟩ := List.mem_map.1 hel
  simp [slotD] at hd
  rcases hd with rfl | rfl <;> rfl
omit h in
theorem flat_vols (xs : List VolM) : (Obj.row 2 xs.length 1 (xs.map volD)).flat = true := by
  simp only [Obj.flat, rowFlat, Bool.or_eq_true, Bool.and_eq_true, Nat.ble_eq, List.length_map]
  left
  refine ⟨Nat.le_refl _, List.all_eq_true.2 fun el hel => ?_⟩
  obtain ⟨x, _, rfl⟩ := List.mem_map.1 hel
  simp only [volD, Bool.and_eq_true]
  refine ⟨rfl, ?_⟩
  show D.flatN (.sl (x.blocks.map intD)) = true
  simp only [D.flatN, List.all_eq_true]
  intro el hel d hd
  obtain ⟨y, _, rfl⟩ := List.mem_map.1 hel
  simp [intD] at hd
  subst hd; rfl
theorem ev_Pool_clone (p : PoolM) (hs : VolsSz p.vols) (h1 : p.slots.length * 24 ≤ 140737488355328) (h2 : p.vols.length * 40 ≤ 140737488355328) (hb : ∀ v ∈ p.vols, v.blocks.length * 8 ≤ 140737488355328) :
    W f_impl_Pool_clone [poolA p] [] = some (.agg [.hw 0, .hw 1], [.row 2 0 2 (p.slots.map slotD), .row 2 p.vols.length 1 (p.vols.map volD)]) := by
  have e := clone_loop h p hs hb p.vols.length 0 (by omega)
  rw [nc0] at e
  have hf : (!cf150.demR && (AV.agg [.hw 0, .hw 1]).flat && [Obj.row 2 0 2 (p.slots.map slotD), Obj.row 2 p.vols.length 1 (p.vols.map volD)].all Obj.flat) = true := by
    simp only [List.all_cons, List.all_nil, flat_slots, flat_vols]
    rfl
  rw [h.call]
  repeat (conv => lhs; whnf; arg 2; tactic => first | exact g1 | exact ev_cloneSlot h _ h1 | exact ev_cloneVol h _ h2 | exact e | exact hf | exact congrArg not e | exact congrArg not hf | exact g2)
end
end Go.Gn

namespace Go.Gn
open Go
set_option linter.unusedVariables false
set_option linter.unusedSimpArgs false
set_option maxRecDepth 100000
def okK (o : OpM) : Bool := if o.kind = 1 then inR o.n 1 6 else if o.kind = 2 then inR o.n 0 5 && textOk o.text else if o.kind = 3 then isName o.to else if o.kind = 4 then true else false
def want (o : OpM) : OpM := if o.kind = 1 then ⟨o.kind, o.name, noText, o.n, noText⟩ else if o.kind = 2 then ⟨o.kind, o.name, noText, o.n, o.text⟩ else if o.kind = 3 then ⟨o.kind, o.name, o.to, 0, noText⟩ else ⟨o.kind, o.name, noText, 0, noText⟩
def opOk (o : OpM) : Bool := okK o && (isName o.name && opEq o (want o))
section
variable {W : CallF} {L : LoopF} {E : EqF} {T : Prop → Bool} (h : IsK G W L E T)
include h
theorem ev_OpOk (o : OpM) (hs : o.Sz) : W f_impl_OpOk [.agg (opC o)] [] = some (.bool (opOk o), []) := by
  unfold opOk okK want
  rw [h.call]
  have n1 : ∀ {a b : Int}, ¬ a = b → (a == b) = false := fun hab => by simp [hab]
  by_cases k1 : o.kind = 1
  · simp only [if_pos k1]
    have e1 : (o.kind == 1) = true := by simp [k1]
    cases hr : inR o.n 1 6
    · repeat (conv => lhs; whnf; arg 2; tactic => first | exact g1 | exact e1 | exact ev_within h _ _ _ | exact hr | exact congrArg not e1 | exact congrArg not hr | exact g2)
      rfl
    · cases hn : isName o.name
      · repeat (conv => lhs; whnf; arg 2; tactic => first | exact g1 | exact e1 | exact ev_within h _ _ _ | exact hr | exact ev_isName h _ | exact hn | exact congrArg not e1 | exact congrArg not hr | exact congrArg not hn | exact g2)
        rfl
      · repeat (conv => lhs; whnf; arg 2; tactic => first | exact g1 | exact e1 | exact ev_within h _ _ _ | exact hr | exact ev_isName h _ | exact hn | exact E_op h o ⟨o.kind, o.name, noText, o.n, noText⟩ | exact congrArg not e1 | exact congrArg not hr | exact congrArg not hn | exact g2)
        rfl
  · simp only [if_neg k1]
    have e1 := n1 k1
    by_cases k2 : o.kind = 2
    · simp only [if_pos k2]
      have e2 : (o.kind == 2) = true := by simp [k2]
      cases hr : inR o.n 0 5
      · repeat (conv => lhs; whnf; arg 2; tactic => first | exact g1 | exact e1 | exact e2 | exact ev_within h _ _ _ | exact hr | exact congrArg not e1 | exact congrArg not e2 | exact congrArg not hr | exact g2)
        rfl
      · cases ht : textOk o.text
        · repeat (conv => lhs; whnf; arg 2; tactic => first | exact g1 | exact e1 | exact e2 | exact ev_within h _ _ _ | exact hr | exact ev_TextOk h _ hs.2.2 | exact ht | exact congrArg not e1 | exact congrArg not e2 | exact congrArg not hr | exact congrArg not ht | exact g2)
          rfl
        · cases hn : isName o.name
          · repeat (conv => lhs; whnf; arg 2; tactic => first | exact g1 | exact e1 | exact e2 | exact ev_within h _ _ _ | exact hr | exact ev_TextOk h _ hs.2.2 | exact ht | exact ev_isName h _ | exact hn | exact congrArg not e1 | exact congrArg not e2 | exact congrArg not hr | exact congrArg not ht | exact congrArg not hn | exact g2)
            rfl
          · repeat (conv => lhs; whnf; arg 2; tactic => first | exact g1 | exact e1 | exact e2 | exact ev_within h _ _ _ | exact hr | exact ev_TextOk h _ hs.2.2 | exact ht | exact ev_isName h _ | exact hn | exact E_op h o ⟨o.kind, o.name, noText, o.n, o.text⟩ | exact congrArg not e1 | exact congrArg not e2 | exact congrArg not hr | exact congrArg not ht | exact congrArg not hn | exact g2)
            rfl
    · simp only [if_neg k2]
      have e2 := n1 k2
      by_cases k3 : o.kind = 3
      · simp only [if_pos k3]
        have e3 : (o.kind == 3) = true := by simp [k3]
        cases hr : isName o.to
        · repeat (conv => lhs; whnf; arg 2; tactic => first | exact g1 | exact e1 | exact e2 | exact e3 | exact ev_isName h o.to | exact hr | exact congrArg not e1 | exact congrArg not e2 | exact congrArg not e3 | exact congrArg not hr | exact g2)
          rfl
        · cases hn : isName o.name
          · repeat (conv => lhs; whnf; arg 2; tactic => first | exact g1 | exact e1 | exact e2 | exact e3 | exact ev_isName h _ | exact hr | exact hn | exact congrArg not e1 | exact congrArg not e2 | exact congrArg not e3 | exact congrArg not hr | exact congrArg not hn | exact g2)
            rfl
          · repeat (conv => lhs; whnf; arg 2; tactic => first | exact g1 | exact e1 | exact e2 | exact e3 | exact ev_isName h _ | exact hr | exact hn | exact E_op h o ⟨o.kind, o.name, o.to, 0, noText⟩ | exact congrArg not e1 | exact congrArg not e2 | exact congrArg not e3 | exact congrArg not hr | exact congrArg not hn | exact g2)
            rfl
      · simp only [if_neg k3]
        have e3 := n1 k3
        by_cases k4 : o.kind = 4
        · simp only [if_pos k4]
          have e4 : (o.kind == 4) = true := by simp [k4]
          cases hn : isName o.name
          · repeat (conv => lhs; whnf; arg 2; tactic => first | exact g1 | exact e1 | exact e2 | exact e3 | exact e4 | exact ev_isName h _ | exact hn | exact congrArg not e1 | exact congrArg not e2 | exact congrArg not e3 | exact congrArg not e4 | exact congrArg not hn | exact g2)
            rfl
          · repeat (conv => lhs; whnf; arg 2; tactic => first | exact g1 | exact e1 | exact e2 | exact e3 | exact e4 | exact ev_isName h _ | exact hn | exact E_op h o ⟨o.kind, o.name, noText, 0, noText⟩ | exact congrArg not e1 | exact congrArg not e2 | exact congrArg not e3 | exact congrArg not e4 | exact congrArg not hn | exact g2)
            rfl
        · simp only [if_neg k4]
          have e4 := n1 k4
          repeat (conv => lhs; whnf; arg 2; tactic => first | exact g1 | exact e1 | exact e2 | exact e3 | exact e4 | exact congrArg not e1 | exact congrArg not e2 | exact congrArg not e3 | exact congrArg not e4 | exact g2)
          rfl
end
end Go.Gn

namespace Go.Gn
open Go
set_option linter.unusedVariables false
set_option linter.unusedSimpArgs false
set_option maxRecDepth 100000
def bs (vs : List VolM) (n : Str) : Nat → Nat → Nat → Nat
  | 0, i, _ => i
  | f + 1, i, j => if i < j then (match vs[(i + j) / 2]? with
      | some v => if cmpStr v.name n < 0 then bs vs n f ((i + j) / 2 + 1) j else bs vs n f i ((i + j) / 2)
      | none => i) else i
def insIx (vs : List VolM) (n : Str) : Nat := bs vs n vs.length 0 vs.length
def insV (vs : List VolM) (v : VolM) : List VolM := vs.take (insIx vs v.name) ++ [v] ++ vs.drop (insIx vs v.name)
theorem bs_le (vs : List VolM) (n : Str) : ∀ f i j, i ≤ j → bs vs n f i j ≤ j
  | 0, i, j, h => h
  | f + 1, i, j, h => by
    simp only [bs]
    split
    · split
      · split
        · exact bs_le vs n f _ j (by omega)
        · have := bs_le vs n f i ((i + j) / 2) (by omega); omega
      · omega
    · omega
theorem half {i j : Nat} (hh : i + j < 4611686018427387904) : IntKind.i64.wrap ((IntKind.u64.wrap (IntKind.i64.wrap ((i : Int) + j))).fdiv (2 ^ (Nat.min (1 : Int).toNat IntKind.u64.bits))) = (((i + j) / 2 : Nat) : Int) := by
  rw [wrap_id (n := (i : Int) + j) (by omega) (by omega)]
  have e1 : IntKind.u64.wrap ((i : Int) + j) = (i : Int) + j := by rw [IntKind.wrap_u64]; omega
  rw [e1]
  have e2 : (2 : Int) ^ (Nat.min (1 : Int).toNat IntKind.u64.bits) = 2 := rfl
  rw [e2, Int.fdiv_eq_ediv_of_nonneg _ (by omega)]
  rw [wrap_id (by omega) (by omega)]
  omega
section
variable {W : CallF} {L : LoopF} {E : EqF} {T : Prop → Bool} (h : IsK G W L E T)
include h
theorem ev_compare (a b : Str) : W f_strings_Compare [.str a, .str b] [] = some (.int .i64 (cmpStr a b), []) := by
  rw [h.call, bodyX rfl (cf := cf176) (g := compareX) rfl rfl, compareX]
theorem ev_insert_c1 (v : VolM) (n : Str) : W f_impl_Pool_insert_c1 [.agg [.str v.name, .sl .br (v.blocks.map intD)], .str n] [] = some (.int .i64 (cmpStr v.name n), []) := by
  rw [h.call]
  repeat (conv => lhs; whnf; arg 2; tactic => first | exact g1 | exact ev_compare h _ _ | exact g2)
  rfl
theorem bs_loop (vs : List VolM) (hl : vs.length < 1000000) (n : Str) : ∀ f i j, j - i ≤ f → i ≤ j → j ≤ vs.length → L (norm 0 cf174.live) (exitN 0 cf174.out (evCW W L G cf174 0 c174l0)) ⟨[(0, .sl .br (vs.map volD)), (1, .str n), (2, .fn f_impl_Pool_insert_c1 []), (8, .int .i64 ((vs.map volD).length : Nat)), (9, .int .i64 (i : Nat)), (10, .int .i64 (j : Nat))], []⟩ =
    some (.ext 0, ⟨[(0, .sl .br (vs.map volD)), (1, .str n), (2, .fn f_impl_Pool_insert_c1 []), (6, .top), (7, .top), (8, .int .i64 ((vs.map volD).length : Nat)), (9, .int .i64 (bs vs n f i j : Nat))], []⟩)
  | 0, i, j, hf, hij, hj => by
    rw [h.loop]
    repeat (conv => lhs; whnf; arg 2; tactic => first | exact g1 | exact g2)
    rfl
  | f + 1, i, j, hf, hij, hj => by
    by_cases hlt : i < j
    · obtain ⟨v, hv⟩ := get_some (xs := vs) (i := (i + j) / 2) (by omega)
      have hh := half (i := i) (j := j) (by omega)
      rw [h.loop]
      simp only [bs, if_pos hlt, hv]
      by_cases hc : cmpStr v.name n < 0
      · rw [if_pos hc]
        repeat (conv => lhs; whnf; arg 2; tactic => first | exact g1 | exact hh | exact map_get hv | exact ev_insert_c1 h v n | exact decide_eq_true hc | exact congrArg not hh | exact g2)
        conv => lhs; whnf
        rw [hh, wrap_succ (by omega), bs_loop vs hl n f ((i + j) / 2 + 1) j (by omega) (by omega) hj]
      · rw [if_neg hc]
        repeat (conv => lhs; whnf; arg 2; tactic => first | exact g1 | exact hh | exact map_get hv | exact ev_insert_c1 h v n | exact decide_eq_false hc | exact congrArg not hh | exact g2)
        conv => lhs; whnf
        rw [hh, bs_loop vs hl n f i ((i + j) / 2) (by omega) (by omega) (by omega)]
    · rw [h.loop]
      simp only [bs, if_neg hlt]
      repeat (conv => lhs; whnf; arg 2; tactic => first | exact g1 | exact g2)
      rfl
theorem ev_bsearch (vs : List VolM) (hl : vs.length < 1000000) (n : Str) : ∃ b : Bool, W f_slices_BinarySearchFunc_Vol [.sl .br (vs.map volD), .str n, .fn f_impl_Pool_insert_c1 []] [] = some (.tup [.int .i64 (insIx vs n : Nat), .bool b], []) := by
  have e := bs_loop h vs hl n vs.length 0 vs.length (by omega) (by omega) (by omega)
  have hle := bs_le vs n vs.length 0 vs.length (by omega)
  rw [nc0] at e
  have e0 : ((vs.map volD).length : Nat) = vs.length := List.length_map ..
  unfold insIx
  rw [e0] at e
  by_cases hlt : bs vs n vs.length 0 vs.length < vs.length
  · obtain ⟨v, hv⟩ := get_some (xs := vs) hlt
    refine ⟨cmpStr v.name n == 0, ?_⟩
    rw [h.call]
    conv => lhs; whnf
    rw [e0]
    repeat (conv => lhs; whnf; arg 2; tactic => first | exact g1 | exact e | exact map_get hv | exact ev_insert_c1 h v n | exact congrArg not e | exact g2)
    rfl
  · refine ⟨false, ?_⟩
    rw [h.call]
    conv => lhs; whnf
    rw [e0]
    repeat (conv => lhs; whnf; arg 2; tactic => first | exact g1 | exact e | exact congrArg not e | exact g2)
    rfl
end
end Go.Gn

namespace Go.Gn
open Go
set_option linter.unusedVariables false
set_option linter.unusedSimpArgs false
set_option maxRecDepth 100000
def ownA (p : PoolM) : List Obj := [.box [.hw 1, .hw 2], .row 2 0 2 (p.slots.map slotD), .row 2 p.vols.length 1 (p.vols.map volD)]
def ownB (p : PoolM) : List Obj := [.box [.hw 1, .hw 3], .row 2 0 2 (p.slots.map slotD), .dead, .row 2 p.vols.length 1 (p.vols.map volD)]
theorem insV_length (vs : List VolM) (v : VolM) : (insV vs v).length = vs.length + 1 := by
  have := bs_le vs v.name vs.length 0 vs.length (by omega)
  simp only [insV, insIx, List.length_append, List.length_take, List.length_drop, List.length_cons, List.length_nil]
  omega
section
variable {W : CallF} {L : LoopF} {E : EqF} {T : Prop → Bool} (h : IsK G W L E T)
include h
theorem ev_Insert (vs : List VolM) (hl : (vs.length + 1) * 40 ≤ 140737488355328) (v : VolM) (c : Nat) : W f_slices_Insert_Vol [.hw 0, .int .i64 (insIx vs v.name : Nat), .hs 1 0 1] [.row 2 vs.length 1 (vs.map volD), .box [.str v.name, .hw 2], .row 1 0 c (v.blocks.map intD)] =
    some (.hw 3, [.dead, .box [.str v.name, .hw 2], .dead, .row 2 (vs.length + 1) 1 ((insV vs v).map volD)]) := by
  have hle := bs_le vs v.name vs.length 0 vs.length (by omega)
  have hle' : insIx vs v.name ≤ vs.length := hle
  rw [h.call, bodyX rfl (cf := cf177) (g := insertX 40) rfl rfl]
  have e0 : (vs.map volD).length = vs.length := List.length_map ..
  rw [insertX, if_pos ⟨by omega, by rw [e0]; omega, e0.symm, .inr rfl, by rw [e0]; exact hl⟩, e0]
  simp only [Int.toNat_natCast, insV, List.map_append, List.map_take, List.map_drop, List.map_cons, List.map_nil]
  rfl
theorem ev_insert (p : PoolM) (hl : p.vols.length < 1000000) (v : VolM) (c : Nat) : W f_impl_Pool_insert [.ptr 0 0, .agg [.str v.name, .hw 3]] [.box [.hw 1, .hw 2], .row 2 0 2 (p.slots.map slotD), .row 2 p.vols.length 1 (p.vols.map volD), .row 1 0 c (v.blocks.map intD)] =
    some (.tup [], [.box [.hw 1, .hw 4], .row 2 0 2 (p.slots.map slotD), .dead, .dead, .row 2 (p.vols.length + 1) 1 ((insV p.vols v).map volD)]) := by
  obtain ⟨b, hb⟩ := ev_bsearch h p.vols hl v.name
  rw [h.call]
  repeat (conv => lhs; whnf; arg 2; tactic => first | exact g1 | exact hb | exact ev_Insert h p.vols (by omega) v c | exact congrArg not hb | exact g2)
  rfl
end
end Go.Gn

namespace Go.Gn
open Go
set_option linter.unusedVariables false
set_option linter.unusedSimpArgs false
set_option maxRecDepth 100000
set_option maxHeartbeats 4000000
def SlotsB (n : Int) (xs : List SlotM) : Prop := ∀ x ∈ xs, -n ≤ x.uses ∧ x.uses ≤ n
def makeBad (p : PoolM) (nm : Str) (sz : Int) : Bool := !isName nm || (decide (fndI (volIx p.vols nm) ≥ 0) || !inR sz 1 6)
def makeM (p : PoolM) (nm : Str) (sz : Int) : PoolM := ⟨p.slots, insV p.vols ⟨nm, List.replicate sz.toNat 0⟩⟩
section
variable {W : CallF} {L : LoopF} {E : EqF} {T : Prop → Bool} (h : IsK G W L E T)
include h
theorem ev_make_c1 (p : PoolM) (hl : p.vols.length < 1000000) (nm : Str) (sz : Int) : W f_impl_PoolMake_c1 [.ptr 0 0, .ep .br [.str nm] 0, .ep .br (poolDs p) 0, .ep .br [.int .i64 sz] 0] (ownA p) =
    some (if makeBad p nm sz then (.bool false, ownA p) else (.bool true, ownB (makeM p nm sz))) := by
  unfold makeBad
  have hv := ev_vol h p (by omega) nm
  rw [h.call]
  cases hn : isName nm
  · repeat (conv => lhs; whnf; arg 2; tactic => first | exact g1 | exact ev_isName h _ | exact hn | exact congrArg not hn | exact g2)
    rfl
  · cases hi : decide (fndI (volIx p.vols nm) ≥ 0)
    · cases hr : inR sz 1 6
      · repeat (conv => lhs; whnf; arg 2; tactic => first | exact g1 | exact ev_isName h _ | exact hn | exact hv | exact hi | exact ev_within h _ _ _ | exact hr | exact congrArg not hn | exact congrArg not hv | exact congrArg not hi | exact congrArg not hr | exact g2)
        rfl
      · have hr' := hr
        simp only [inR, Bool.and_eq_true, decide_eq_true_eq] at hr'
        obtain ⟨n, rfl⟩ : ∃ n : Nat, sz = n := ⟨sz.toNat, by omega⟩
        have hins := ev_insert h p hl ⟨nm, List.replicate n 0⟩ 0
        simp only [List.map_replicate] at hins
        repeat (conv => lhs; whnf; arg 2; tactic => first | exact g1 | exact ev_isName h _ | exact hn | exact hv | exact hi | exact ev_within h _ _ _ | exact hr | exact hins | exact congrArg not hn | exact congrArg not hv | exact congrArg not hi | exact congrArg not hr | exact congrArg not hins | exact g2)
        have e : (makeM p nm n).vols.length = p.vols.length + 1 := insV_length _ _
        simp only [ownB, e]
        rfl
    · repeat (conv => lhs; whnf; arg 2; tactic => first | exact g1 | exact ev_isName h _ | exact hn | exact hv | exact hi | exact congrArg not hn | exact congrArg not hv | exact congrArg not hi | exact g2)
      rfl
end
end Go.Gn

namespace Go.Gn
open Go
set_option linter.unusedVariables false
set_option linter.unusedSimpArgs false
set_option maxRecDepth 100000
set_option maxHeartbeats 4000000
def hasB (p : PoolM) (nm : Str) (b : Int) : Option Nat := match volIx p.vols nm with
  | some i => match p.vols[i]? with
    | some v => if inR b 0 ((v.blocks.length : Int) - 1) then some i else none
    | none => none
  | none => none
def freeM (xs : List SlotM) (old : Int) : List SlotM := if old > 0 then (match xs[(old - 1).toNat]? with | some x => xs.set (old - 1).toNat x.dec | none => xs) else xs
def fillM (xs : List SlotM) (t : Str) : List SlotM × Int := if seq t noText then (xs, 0) else putM xs t
def wrM (p : PoolM) (i b : Nat) (t : Str) : PoolM × Bool := match p.vols[i]? with
  | some v => match v.blocks[b]? with
    | some old => (⟨(fillM (freeM p.slots old) t).1, p.vols.set i ⟨v.name, v.blocks.set b (fillM (freeM p.slots old) t).2⟩⟩, seq t noText || decide ((fillM (freeM p.slots old) t).2 > 0))
    | none => (p, false)
  | none => (p, false)
theorem wr_es (vs : List VolM) (v : VolM) (i n : Nat) (a : Int) : (vs.map volD).set i ((volD v).set 1 (D.sl ((v.blocks.map intD).set n [(D.int .i64 a).scrub]))) = (vs.set i ⟨v.name, v.blocks.set n a⟩).map volD := by
  rw [List.map_set]
  congr 1
  simp only [volD, List.map_set]
  rfl
theorem freeM_length (xs : List SlotM) (old : Int) : (freeM xs old).length = xs.length := by
  unfold freeM
  split
  · split <;> simp
  · rfl
theorem freeM_B {xs : List SlotM} (hu : SlotsB 99 xs) {old : Int} : SlotsB 1000000 (freeM xs old) := by
  intro x hx
  unfold freeM at hx
  split at hx
  · split at hx
    · rename_i y hy
      rcases List.mem_or_eq_of_mem_set hx with hx | rfl
      · have := hu x hx; omega
      · have := hu y (List.mem_of_getElem? hy)
        unfold SlotM.dec
        split <;> simp only <;> omega
    · have := hu x hx; omega
  · have := hu x hx; omega
section
variable {W : CallF} {L : LoopF} {E : EqF} {T : Prop → Bool} (h : IsK G W L E T)
include h
theorem ev_hasBlock (p : PoolM) (hs : VolsSz p.vols) (nm : Str) (b : Int) : W f_impl_Pool_hasBlock [poolA p, .str nm, .int .i64 b] [] = some (.int .i64 (fndI (hasB p nm b)), []) := by
  have hl := hs.1
  have hv := ev_vol h p (by omega) nm
  unfold hasB
  rw [h.call]
  cases hx : volIx p.vols nm with
  | none =>
    rw [hx] at hv
    repeat (conv => lhs; whnf; arg 2; tactic => first | exact g1 | exact hv | exact congrArg not hv | exact g2)
    rfl
  | some i =>
    rw [hx] at hv
    obtain ⟨_, hi, v, hvi, _⟩ := fnd_lt hx
    rw [Nat.sub_zero] at hvi
    have hb := hs.2 v (List.mem_of_getElem? hvi)
    simp only [hvi]
    have hlen : IntKind.i64.wrap (((v.blocks.map intD).length : Nat) - 1) = (v.blocks.length : Int) - 1 := by rw [List.length_map, wrap_id (by omega) (by omega)]
    have hw : W f_impl_within [.int .i64 b, .int .i64 0, .int .i64 (IntKind.i64.wrap (((v.blocks.map intD).length : Nat) - 1))] [] = some (.bool (inR b 0 ((v.blocks.length : Int) - 1)), []) := by rw [hlen]; exact ev_within h _ _ _
    have hi0 : decide (fndI (some i) < 0) = false := decide_eq_false (by simp [fndI])
    cases hr : inR b 0 ((v.blocks.length : Int) - 1)
    · repeat (conv => lhs; whnf; arg 2; tactic => first | exact g1 | exact hv | exact hi0 | exact map_get hvi | exact hw | exact hr | exact congrArg not hv | exact congrArg not hi0 | exact congrArg not hw | exact congrArg not hr | exact g2)
      rfl
    · repeat (conv => lhs; whnf; arg 2; tactic => first | exact g1 | exact hv | exact hi0 | exact map_get hvi | exact hw | exact hr | exact congrArg not hv | exact congrArg not hi0 | exact congrArg not hw | exact congrArg not hr | exact g2)
      rfl
theorem ev_free (xs : List SlotM) (h8 : xs.length = 8) (hu : SlotsB 1000000 xs) (old : Int) (h0 : 0 < old) (h1 : old ≤ 8) : W f_impl_drop [.hw 0, .int .i64 old] [.row 2 0 2 (xs.map slotD)] = some (.tup [], [.row 2 0 2 ((freeM xs old).map slotD)]) := by
  obtain ⟨j, rfl⟩ : ∃ j : Nat, old = (j : Int) + 1 := ⟨(old - 1).toNat, by omega⟩
  obtain ⟨x, hx⟩ := get_some (xs := xs) (i := j) (by omega)
  have hj : ((j : Int) + 1 - 1).toNat = j := by omega
  simp only [freeM, if_pos h0, hj, hx]
  exact ev_drop h xs j x hx (by omega) (hu x (List.mem_of_getElem? hx))
theorem ev_write_c1 (p : PoolM) (hs : VolsSz p.vols) (h8 : p.slots.length = 8) (hu : SlotsB 99 p.slots) (hb8 : ∀ v ∈ p.vols, ∀ b ∈ v.blocks, 0 ≤ b ∧ b ≤ 8) (nm : Str) (b : Int) (t : Str) (ht : t.size < 4611686018427387904) :
    W f_impl_PoolWrite_c1 [.ptr 0 0, .ep .br (poolDs p) 0, .ep .br [.str nm] 0, .ep .br [.int .i64 b] 0, .ep .br [.str t] 0] (ownA p) =
    some (match hasB p nm b with
      | none => (.bool false, ownA p)
      | some i => if textOk t then (.bool (wrM p i b.toNat t).2, ownA (wrM p i b.toNat t).1) else (.bool false, ownA p)) := by
  have hl := hs.1
  have hB := ev_hasBlock h p hs nm b
  rw [h.call]
  cases hx : hasB p nm b with
  | none =>
    rw [hx] at hB
    repeat (conv => lhs; whnf; arg 2; tactic => first | exact g1 | exact hB | exact congrArg not hB | exact g2)
    rfl
  | some i =>
    rw [hx] at hB
    have hi0 : decide (fndI (some i) < 0) = false := decide_eq_false (by simp [fndI])
    simp only
    cases htx : textOk t
    · repeat (conv => lhs; whnf; arg 2; tactic => first | exact g1 | exact hB | exact hi0 | exact ev_TextOk h _ ht | exact htx | exact congrArg not hB | exact congrArg not hi0 | exact congrArg not htx | exact g2)
      rfl
    · have hvx : ∃ v, p.vols[i]? = some v ∧ inR b 0 ((v.blocks.length : Int) - 1) = true := by
        unfold hasB at hx
        split at hx
        · split at hx
          · rename_i v hv
            split at hx
            · rename_i hr; cases hx; exact ⟨v, hv, hr⟩
            · cases hx
          · cases hx
        · cases hx
      obtain ⟨v, hv, hr⟩ := hvx
      simp only [inR, Bool.and_eq_true, decide_eq_true_eq] at hr
      obtain ⟨n, rfl⟩ : ∃ n : Nat, b = n := ⟨b.toNat, by omega⟩
      obtain ⟨old, ho⟩ := get_some (xs := v.blocks) (i := n) (by omega)
      have hil := lt_of_get hv
      have ho8 := hb8 v (List.mem_of_getElem? hv) old (List.mem_of_getElem? ho)
      simp only [wrM, hv, ho, Int.toNat_natCast, if_true]
      by_cases hold : old > 0
      · have hf := ev_free h p.slots h8 (fun x hx => by have := hu x hx; omega) old (by omega) ho8.2
        cases hq : seq t noText
        · have hp := ev_put h (freeM p.slots old) (by rw [freeM_length]; exact h8) (freeM_B hu) t htx
          repeat (conv => lhs; whnf; arg 2; tactic => first | exact g1 | exact hB | exact hi0 | exact ev_TextOk h _ ht | exact htx | exact map_get hv | exact map_get ho | exact decide_eq_true hold | exact hf | exact hq | exact hp | exact get_set_self (by simp; omega) | exact congrArg not hB | exact congrArg not hi0 | exact congrArg not htx | exact congrArg not hf | exact congrArg not hq | exact congrArg not hp | exact g2)
          conv => lhs; whnf
          simp only [List.set_set, wr_es, fillM, hq, Bool.false_or, ownA, List.length_set, Bool.false_eq_true, if_false]
        · repeat (conv => lhs; whnf; arg 2; tactic => first | exact g1 | exact hB | exact hi0 | exact ev_TextOk h _ ht | exact htx | exact map_get hv | exact map_get ho | exact decide_eq_true hold | exact hf | exact hq | exact get_set_self (by simp; omega) | exact congrArg not hB | exact congrArg not hi0 | exact congrArg not htx | exact congrArg not hf | exact congrArg not hq | exact g2)
          conv => lhs; whnf
          simp only [List.set_set, wr_es, fillM, hq, Bool.true_or, ownA, List.length_set, if_true]
      · have hfr : freeM p.slots old = p.slots := by unfold freeM; rw [if_neg hold]
        rw [hfr]
        cases hq : seq t noText
        · have hp := ev_put h p.slots h8 (fun x hx => by have := hu x hx; omega) t htx
          repeat (conv => lhs; whnf; arg 2; tactic => first | exact g1 | exact hB | exact hi0 | exact ev_TextOk h _ ht | exact htx | exact map_get hv | exact map_get ho | exact decide_eq_false hold | exact hq | exact hp | exact get_set_self (by simp; omega) | exact congrArg not hB | exact congrArg not hi0 | exact congrArg not htx | exact congrArg not hq | exact congrArg not hp | exact g2)
          conv => lhs; whnf
          simp only [List.set_set, wr_es, fillM, hq, Bool.false_or, ownA, List.length_set, Bool.false_eq_true, if_false]
        · repeat (conv => lhs; whnf; arg 2; tactic => first | exact g1 | exact hB | exact hi0 | exact ev_TextOk h _ ht | exact htx | exact map_get hv | exact map_get ho | exact decide_eq_false hold | exact hq | exact get_set_self (by simp; omega) | exact congrArg not hB | exact congrArg not hi0 | exact congrArg not htx | exact congrArg not hq | exact g2)
          conv => lhs; whnf
          simp only [List.set_set, wr_es, fillM, hq, Bool.true_or, ownA, List.length_set, if_true]
end
end Go.Gn

namespace Go.Gn
open Go
set_option linter.unusedVariables false
set_option linter.unusedSimpArgs false
set_option maxRecDepth 100000
set_option maxHeartbeats 4000000
def incM (xs : List SlotM) (b : Int) : List SlotM := if b > 0 then (match xs[(b - 1).toNat]? with | some x => xs.set (b - 1).toNat x.inc | none => xs) else xs
def incL : List SlotM → List Int → List SlotM
  | xs, [] => xs
  | xs, b :: bs => incL (incM xs b) bs
def freeL : List SlotM → List Int → List SlotM
  | xs, [] => xs
  | xs, b :: bs => freeL (freeM xs b) bs
def delV (vs : List VolM) (i : Nat) : List VolM := vs.take i ++ vs.drop (i + 1)
def cloneBad (p : PoolM) (fr to : Str) : Bool := decide (fndI (volIx p.vols fr) < 0) || (!isName to || decide (fndI (volIx p.vols to) ≥ 0))
def clM (p : PoolM) (i : Nat) (to : Str) : PoolM := match p.vols[i]? with
  | some v => ⟨incL p.slots v.blocks, insV p.vols ⟨to, v.blocks⟩⟩
  | none => p
def goM (p : PoolM) (i : Nat) : PoolM := match p.vols[i]? with
  | some v => ⟨freeL p.slots v.blocks, delV p.vols i⟩
  | none => p
theorem incM_length (xs : List SlotM) (b : Int) : (incM xs b).length = xs.length := by
  unfold incM
  split
  · split <;> simp
  · rfl
theorem incM_B {n : Int} {xs : List SlotM} (hu : SlotsB n xs) {b : Int} : SlotsB (n + 1) (incM xs b) := by
  intro x hx
  unfold incM at hx
  split at hx
  · split at hx
    · rename_i y hy
      rcases List.mem_or_eq_of_mem_set hx with hx | rfl
      · have := hu x hx; omega
      · have := hu y (List.mem_of_getElem? hy)
        unfold SlotM.inc
        simp only
        omega
    · have := hu x hx; omega
  · have := hu x hx; omega
theorem freeM_B' {n : Int} {xs : List SlotM} (hu : SlotsB n xs) (hn : 0 ≤ n) {b : Int} : SlotsB (n + 1) (freeM xs b) := by
  intro x hx
  unfold freeM at hx
  split at hx
  · split at hx
    · rename_i y hy
      rcases List.mem_or_eq_of_mem_set hx with hx | rfl
      · have := hu x hx; omega
      · have := hu y (List.mem_of_getElem? hy)
        unfold SlotM.dec
        split <;> simp only <;> omega
    · have := hu x hx; omega
  · have := hu x hx; omega
theorem delV_length {vs : List VolM} {i : Nat} (hi : i < vs.length) : (delV vs i).length = vs.length - 1 := by
  simp only [delV, List.length_append, List.length_take, List.length_drop]; omega
section
variable {W : CallF} {L : LoopF} {E : EqF} {T : Prop → Bool} (h : IsK G W L E T)
include h
theorem ev_Delete (vs : List VolM) (i : Nat) (hi : i < vs.length) : W f_slices_Delete_Vol [.hw 0, .int .i64 (i : Nat), .int .i64 ((i + 1 : Nat) : Int)] [.row 2 vs.length 1 (vs.map volD)] = some (.hw 1, [.dead, .row 2 (vs.length - 1) 1 ((delV vs i).map volD)]) := by
  rw [h.call, bodyX rfl (cf := cf148) (g := deleteX 2) rfl rfl]
  have e0 : (vs.map volD).length = vs.length := List.length_map ..
  rw [deleteX, if_pos ⟨rfl, by omega, by omega, by rw [e0]; omega, .inr e0.symm⟩]
  simp only [Int.toNat_natCast, delV, List.map_append, List.map_take, List.map_drop]
  rw [show i + 1 - i = 1 by omega]
theorem inc_loop (p : PoolM) (bs : List Int) (hbl : bs.length < 1000) (hb8 : ∀ b ∈ bs, 0 ≤ b ∧ b ≤ 8) (ix : Nat) (to : Str) : ∀ (m i : Nat) (xs : List SlotM), i + m = bs.length → xs.length = 8 → SlotsB (1000 + i) xs →
    L (norm 3 cf145.live) (exitN 3 cf145.out (evCW W L G cf145 3 c145l0)) ⟨[(0, .ptr 0 0), (1, .ep .br (poolDs p) 0), (3, .ep .br [.str to] 0), (6, .int .i64 (ix : Nat)), (30, .sl .br (bs.map intD)), (31, .int .i64 ((bs.map intD).length : Nat)), (32, .int .i64 (i : Nat))], ownA ⟨xs, p.vols⟩⟩ =
    some (.ext 0, ⟨[(0, .ptr 0 0), (1, .ep .br (poolDs p) 0), (3, .ep .br [.str to] 0), (5, .top), (6, .int .i64 (ix : Nat))], ownA ⟨incL xs (bs.drop i), p.vols⟩⟩)
  | 0, i, xs, hm, h8, hu => by
    rw [h.loop, List.drop_eq_nil_of_le (show bs.length ≤ i by omega)]
    repeat (conv => lhs; whnf; arg 2; tactic => first | exact g1 | exact g2)
    rfl
  | m + 1, i, xs, hm, h8, hu => by
    obtain ⟨b, hb⟩ := get_some (xs := bs) (i := i) (by omega)
    have hbb := hb8 b (List.mem_of_getElem? hb)
    have hu' := incM_B (b := b) hu
    have hu2 : SlotsB (1000 + (i + 1 : Nat)) (incM xs b) := fun x hx => by have := hu' x hx; omega
    rw [h.loop, drop_cons hb, incL]
    by_cases hp : b > 0
    · obtain ⟨j, rfl⟩ : ∃ j : Nat, b = (j : Int) + 1 := ⟨(b - 1).toNat, by omega⟩
      obtain ⟨x, hx⟩ := get_some (xs := xs) (i := j) (by omega)
      have hux := hu x (List.mem_of_getElem? hx)
      have hj : ((j : Int) + 1 - 1).toNat = j := by omega
      have hinc : incM xs ((j : Int) + 1) = xs.set j x.inc := by simp only [incM, if_pos hp, hj, hx]
      rw [hinc] at hu2 ⊢
      repeat (conv => lhs; whnf; arg 2; tactic => first | exact g1 | exact map_get hb | exact decide_eq_true hp | exact map_get hx | exact g2)
      conv => lhs; whnf
      rw [wrap_succ (by omega), wrap_id (n := x.uses + 1) (by omega) (by omega)]
      have es : (xs.map slotD).set j (splice (slotD x) (0 + 1) [D.int .i64 (x.uses + 1)]) = (xs.set j x.inc).map slotD := by rw [← set_map]; rfl
      rw [es]
      exact inc_loop p bs hbl hb8 ix to m (i + 1) (xs.set j x.inc) (by omega) (by simp [h8]) hu2
    · have hinc : incM xs b = xs := by simp only [incM, if_neg hp]
      rw [hinc] at hu2 ⊢
      repeat (conv => lhs; whnf; arg 2; tactic => first | exact g1 | exact map_get hb | exact decide_eq_false hp | exact g2)
      conv => lhs; whnf
      rw [wrap_succ (by omega)]
      exact inc_loop p bs hbl hb8 ix to m (i + 1) xs (by omega) h8 hu2
theorem ev_clone_c1 (p : PoolM) (hl : p.vols.length < 1000000) (hbl : ∀ v ∈ p.vols, v.blocks.length < 1000) (h8 : p.slots.length = 8) (hu : SlotsB 1000 p.slots) (hb8 : ∀ v ∈ p.vols, ∀ b ∈ v.blocks, 0 ≤ b ∧ b ≤ 8) (fr to : Str) :
    W f_impl_PoolClone_c1 [.ptr 0 0, .ep .br (poolDs p) 0, .ep .br [.str fr] 0, .ep .br [.str to] 0] (ownA p) =
    some (if cloneBad p fr to then (.bool false, ownA p) else (.bool true, ownB (clM p (fndI (volIx p.vols fr)).toNat to))) := by
  unfold cloneBad
  have hv := ev_vol h p (by omega) fr
  have hv2 := ev_vol h p (by omega) to
  rw [h.call]
  cases hf : volIx p.vols fr with
  | none =>
    rw [hf] at hv
    repeat (conv => lhs; whnf; arg 2; tactic => first | exact g1 | exact hv | exact congrArg not hv | exact g2)
    rfl
  | some i =>
    rw [hf] at hv
    have hi0 : decide (fndI (some i) < 0) = false := decide_eq_false (by simp [fndI])
    obtain ⟨_, hi, v, hvi, _⟩ := fnd_lt hf
    rw [Nat.sub_zero] at hvi
    have hvb := hbl v (List.mem_of_getElem? hvi)
    have hk : (fndI (some i)).toNat = i := by simp [fndI]
    rw [hk, hi0]
    cases hn : isName to
    · repeat (conv => lhs; whnf; arg 2; tactic => first | exact g1 | exact hv | exact hi0 | exact ev_isName h _ | exact hn | exact congrArg not hv | exact congrArg not hi0 | exact congrArg not hn | exact g2)
      rfl
    · cases hg : decide (fndI (volIx p.vols to) ≥ 0)
      · have e := inc_loop h p v.blocks hvb (hb8 v (List.mem_of_getElem? hvi)) i to v.blocks.length 0 p.slots (by omega) h8 (fun x hx => by have := hu x hx; omega)
        rw [nc0, List.drop_zero] at e
        have hins := ev_insert h ⟨incL p.slots v.blocks, p.vols⟩ hl ⟨to, v.blocks⟩ 1
        repeat (conv => lhs; whnf; arg 2; tactic => first | exact g1 | exact hv | exact hi0 | exact ev_isName h _ | exact hn | exact hv2 | exact hg | exact map_get hvi | exact e | exact ev_cloneInt h _ (by omega) | exact hins | exact congrArg not hv | exact congrArg not hi0 | exact congrArg not hn | exact congrArg not hv2 | exact congrArg not hg | exact congrArg not e | exact congrArg not hins | exact g2)
        have e : (insV p.vols ⟨to, v.blocks⟩).length = p.vols.length + 1 := insV_length _ _
        simp only [clM, hvi, ownB, e]
        rfl
      · repeat (conv => lhs; whnf; arg 2; tactic => first | exact g1 | exact hv | exact hi0 | exact ev_isName h _ | exact hn | exact hv2 | exact hg | exact congrArg not hv | exact congrArg not hi0 | exact congrArg not hn | exact congrArg not hv2 | exact congrArg not hg | exact g2)
        rfl
end
end Go.Gn

namespace Go.Gn
open Go
set_option linter.unusedVariables false
set_option linter.unusedSimpArgs false
set_option maxRecDepth 100000
set_option maxHeartbeats 4000000
def poolV (p : PoolM) : List Obj := [.row 2 0 2 (p.slots.map slotD), .row 2 p.vols.length 1 (p.vols.map volD)]
def poolR (r : PoolM × Bool) : AV × List Obj := (.tup [.agg [.hw 0, .hw 1], .bool r.2], poolV r.1)
def noPool : AV × List Obj := (.tup [.agg [.nils, .nils], .bool false], [])
def poolMake (p : PoolM) (nm : Str) (sz : Int) : PoolM × Bool := if makeBad p nm sz then (p, false) else (makeM p nm sz, true)
def poolWrite (p : PoolM) (nm : Str) (b : Int) (t : Str) : PoolM × Bool := match hasB p nm b with
  | none => (p, false)
  | some i => if textOk t then (if (wrM p i b.toNat t).2 then ((wrM p i b.toNat t).1, true) else (p, false)) else (p, false)
def poolClone (p : PoolM) (fr to : Str) : PoolM × Bool := if cloneBad p fr to then (p, false) else (clM p (fndI (volIx p.vols fr)).toNat to, true)
def poolGone (p : PoolM) (nm : Str) : PoolM × Bool := match volIx p.vols nm with
  | none => (p, false)
  | some i => (goM p i, true)
structure PoolG (p : PoolM) : Prop where
  h8 : p.slots.length = 8
  hu : SlotsB 99 p.slots
  hl : p.vols.length ≤ 4
  hb : ∀ v ∈ p.vols, v.blocks.length ≤ 6
  hb8 : ∀ v ∈ p.vols, ∀ b ∈ v.blocks, 0 ≤ b ∧ b ≤ 8
theorem storeOkL_get {xs : List SlotM} : ∀ {m i : Nat}, storeOkL xs m i = true → ∀ j, i ≤ j → j < i + m → ∀ x, xs[j]? = some x → slotOk (xs.take j) x = true
  | 0, i, _, j, h1, h2, x, hx => by omega
  | m + 1, i, hk, j, h1, h2, x, hx => by
    simp only [storeOkL] at hk
    split at hk
    · rename_i y hy
      rw [Bool.and_eq_true] at hk
      by_cases hij : j = i
      · subst hij; rw [hy] at hx; cases hx; exact hk.1
      · exact storeOkL_get hk.2 j (by omega) (by omega) x hx
    · cases hk
theorem poolOk_G {p : PoolM} (h : poolOk p = true) : PoolG p := by
  simp only [poolOk, Bool.and_eq_true, Bool.not_eq_true', decide_eq_false_iff_not, storeOk, beq_iff_eq] at h
  obtain ⟨⟨h1, h2⟩, h3, h4, h5⟩ := h
  refine ⟨by omega, fun x hx => ?_, by omega, fun v hv => ?_, fun v hv b hb => ?_⟩
  · obtain ⟨j, hj⟩ := List.getElem?_of_mem hx
    have := storeOkL_get h1 j (by omega) (by have := lt_of_get hj; omega) x hj
    simp only [slotOk, Bool.and_eq_true, inR, decide_eq_true_eq] at this
    omega
  · obtain ⟨j, hj⟩ := List.getElem?_of_mem hv
    exact (volOk_len (volsOkL_len h4 j (by omega) (by have := lt_of_get hj; omega) v hj)).2
  · obtain ⟨j, hj⟩ := List.getElem?_of_mem hv
    have := volsOkL_len h4 j (by omega) (by have := lt_of_get hj; omega) v hj
    simp only [volOk, Bool.and_eq_true, inAll, List.all_eq_true] at this
    have := this.1 b hb
    simp only [inR, Bool.and_eq_true, decide_eq_true_eq] at this
    exact this
section
variable {W : CallF} {L : LoopF} {E : EqF} {T : Prop → Bool} (h : IsK G W L E T)
include h
theorem gone_loop (p : PoolM) (bs : List Int) (hbl : bs.length < 1000) (hb8 : ∀ b ∈ bs, 0 ≤ b ∧ b ≤ 8) (ix : Nat) : ∀ (m i : Nat) (xs : List SlotM), i + m = bs.length → xs.length = 8 → SlotsB (1000 + i) xs →
    L (norm 3 cf147.live) (exitN 3 cf147.out (evCW W L G cf147 3 c147l0)) ⟨[(0, .ptr 0 0), (5, .int .i64 (ix : Nat)), (18, .sl .br (bs.map intD)), (19, .int .i64 ((bs.map intD).length : Nat)), (20, .int .i64 (i : Nat))], ownA ⟨xs, p.vols⟩⟩ =
    some (.ext 0, ⟨[(0, .ptr 0 0), (4, .top), (5, .int .i64 (ix : Nat))], ownA ⟨freeL xs (bs.drop i), p.vols⟩⟩)
  | 0, i, xs, hm, h8, hu => by
    rw [h.loop, List.drop_eq_nil_of_le (show bs.length ≤ i by omega)]
    repeat (conv => lhs; whnf; arg 2; tactic => first | exact g1 | exact g2)
    rfl
  | m + 1, i, xs, hm, h8, hu => by
    obtain ⟨b, hb⟩ := get_some (xs := bs) (i := i) (by omega)
    have hbb := hb8 b (List.mem_of_getElem? hb)
    have hu' := freeM_B' (b := b) hu (by omega)
    have hu2 : SlotsB (1000 + (i + 1 : Nat)) (freeM xs b) := fun x hx => by have := hu' x hx; omega
    rw [h.loop, drop_cons hb, freeL]
    by_cases hp : b > 0
    · have hf := ev_free h xs h8 (fun x hx => by have := hu x hx; omega) b hp hbb.2
      repeat (conv => lhs; whnf; arg 2; tactic => first | exact g1 | exact map_get hb | exact decide_eq_true hp | exact hf | exact congrArg not hf | exact g2)
      conv => lhs; whnf
      rw [wrap_succ (by omega)]
      exact gone_loop p bs hbl hb8 ix m (i + 1) (freeM xs b) (by omega) (by rw [freeM_length]; exact h8) hu2
    · have hinc : freeM xs b = xs := by simp only [freeM, if_neg hp]
      rw [hinc] at hu2 ⊢
      repeat (conv => lhs; whnf; arg 2; tactic => first | exact g1 | exact map_get hb | exact decide_eq_false hp | exact g2)
      conv => lhs; whnf
      rw [wrap_succ (by omega)]
      exact gone_loop p bs hbl hb8 ix m (i + 1) xs (by omega) h8 hu2
theorem ev_gone_c1 (p : PoolM) (hl : p.vols.length < 1000000) (hbl : ∀ v ∈ p.vols, v.blocks.length < 1000) (h8 : p.slots.length = 8) (hu : SlotsB 1000 p.slots) (hb8 : ∀ v ∈ p.vols, ∀ b ∈ v.blocks, 0 ≤ b ∧ b ≤ 8) (nm : Str) :
    W f_impl_PoolGone_c1 [.ptr 0 0, .ep .br (poolDs p) 0, .ep .br [.str nm] 0] (ownA p) =
    some (match volIx p.vols nm with
      | none => (.bool false, ownA p)
      | some i => (.bool true, ownB (goM p i))) := by
  have hv := ev_vol h p (by omega) nm
  rw [h.call]
  cases hf : volIx p.vols nm with
  | none =>
    rw [hf] at hv
    repeat (conv => lhs; whnf; arg 2; tactic => first | exact g1 | exact hv | exact congrArg not hv | exact g2)
    rfl
  | some i =>
    rw [hf] at hv
    have hi0 : decide (fndI (some i) < 0) = false := decide_eq_false (by simp [fndI])
    obtain ⟨_, hi, v, hvi, _⟩ := fnd_lt hf
    rw [Nat.sub_zero] at hvi
    have hvb := hbl v (List.mem_of_getElem? hvi)
    have e := gone_loop h p v.blocks hvb (hb8 v (List.mem_of_getElem? hvi)) i v.blocks.length 0 p.slots (by omega) h8 (fun x hx => by have := hu x hx; omega)
    rw [nc0, List.drop_zero] at e
    have hd := ev_Delete h p.vols i (by omega)
    rw [← wrap_succ (i := i) (by omega)] at hd
    repeat (conv => lhs; whnf; arg 2; tactic => first | exact g1 | exact hv | exact hi0 | exact map_get hvi | exact e | exact hd | exact congrArg not hv | exact congrArg not hi0 | exact congrArg not e | exact congrArg not hd | exact g2)
    have e : (delV p.vols i).length = p.vols.length - 1 := delV_length (by omega)
    simp only [goM, hvi, ownB, e]
    rfl
theorem ev_changed_make (p : PoolM) (hs : PoolSz p) (nm : Str) (sz : Int) : W f_impl_changed [poolA p, .fn f_impl_PoolMake_c1 [.ep .br [.str nm] 0, .ep .br (poolDs p) 0, .ep .br [.int .i64 sz] 0]] [] = some (if poolOk p then poolR (poolMake p nm sz) else noPool) := by
  have hok := ev_PoolOk h p hs
  rw [h.call]
  cases hp : poolOk p
  · rw [hp] at hok
    repeat (conv => lhs; whnf; arg 2; tactic => first | exact g1 | exact hok | exact congrArg not hok | exact g2)
    rfl
  · rw [hp] at hok
    have hg := poolOk_G hp
    have hcl := ev_Pool_clone h p hs.v (by rw [hg.h8]; omega) (by have := hg.hl; omega) (fun v hv => by have := hg.hb v hv; omega)
    have hc := ev_make_c1 h p (by have := hg.hl; omega) nm sz
    unfold poolMake
    cases hb : makeBad p nm sz
    · rw [hb] at hc
      repeat (conv => lhs; whnf; arg 2; tactic => first | exact g1 | exact hok | exact hcl | exact hc | exact congrArg not hok | exact congrArg not hcl | exact congrArg not hc | exact g2)
      rfl
    · rw [hb] at hc
      repeat (conv => lhs; whnf; arg 2; tactic => first | exact g1 | exact hok | exact hcl | exact hc | exact congrArg not hok | exact congrArg not hcl | exact congrArg not hc | exact g2)
      rfl
theorem ev_changed_write (p : PoolM) (hs : PoolSz p) (nm : Str) (b : Int) (t : Str) (ht : t.size < 4611686018427387904) : W f_impl_changed [poolA p, .fn f_impl_PoolWrite_c1 [.ep .br (poolDs p) 0, .ep .br [.str nm] 0, .ep .br [.int .i64 b] 0, .ep .br [.str t] 0]] [] = some (if poolOk p then poolR (poolWrite p nm b t) else noPool) := by
  have hok := ev_PoolOk h p hs
  rw [h.call]
  cases hp : poolOk p
  · rw [hp] at hok
    repeat (conv => lhs; whnf; arg 2; tactic => first | exact g1 | exact hok | exact congrArg not hok | exact g2)
    rfl
  · rw [hp] at hok
    have hg := poolOk_G hp
    have hcl := ev_Pool_clone h p hs.v (by rw [hg.h8]; omega) (by have := hg.hl; omega) (fun v hv => by have := hg.hb v hv; omega)
    have hc := ev_write_c1 h p hs.v hg.h8 hg.hu hg.hb8 nm b t ht
    unfold poolWrite
    cases hx : hasB p nm b with
    | none =>
      rw [hx] at hc
      repeat (conv => lhs; whnf; arg 2; tactic => first | exact g1 | exact hok | exact hcl | exact hc | exact congrArg not hok | exact congrArg not hcl | exact congrArg not hc | exact g2)
      rfl
    | some i =>
      rw [hx] at hc
      simp only at hc ⊢
      cases htx : textOk t
      · rw [htx] at hc
        repeat (conv => lhs; whnf; arg 2; tactic => first | exact g1 | exact hok | exact hcl | exact hc | exact congrArg not hok | exact congrArg not hcl | exact congrArg not hc | exact g2)
        rfl
      · rw [htx] at hc
        simp only [if_true] at hc ⊢
        cases hw : (wrM p i b.toNat t).2
        · rw [hw] at hc
          repeat (conv => lhs; whnf; arg 2; tactic => first | exact g1 | exact hok | exact hcl | exact hc | exact congrArg not hok | exact congrArg not hcl | exact congrArg not hc | exact g2)
          rfl
        · rw [hw] at hc
          repeat (conv => lhs; whnf; arg 2; tactic => first | exact g1 | exact hok | exact hcl | exact hc | exact congrArg not hok | exact congrArg not hcl | exact congrArg not hc | exact g2)
          rfl
theorem ev_changed_clone (p : PoolM) (hs : PoolSz p) (fr to : Str) : W f_impl_changed [poolA p, .fn f_impl_PoolClone_c1 [.ep .br (poolDs p) 0, .ep .br [.str fr] 0, .ep .br [.str to] 0]] [] = some (if poolOk p then poolR (poolClone p fr to) else noPool) := by
  have hok := ev_PoolOk h p hs
  rw [h.call]
  cases hp : poolOk p
  · rw [hp] at hok
    repeat (conv => lhs; whnf; arg 2; tactic => first | exact g1 | exact hok | exact congrArg not hok | exact g2)
    rfl
  · rw [hp] at hok
    have hg := poolOk_G hp
    have hcl := ev_Pool_clone h p hs.v (by rw [hg.h8]; omega) (by have := hg.hl; omega) (fun v hv => by have := hg.hb v hv; omega)
    have hc := ev_clone_c1 h p (by have := hg.hl; omega) (fun v hv => by have := hg.hb v hv; omega) hg.h8 (fun x hx => by have := hg.hu x hx; omega) hg.hb8 fr to
    unfold poolClone
    cases hb : cloneBad p fr to
    · rw [hb] at hc
      repeat (conv => lhs; whnf; arg 2; tactic => first | exact g1 | exact hok | exact hcl | exact hc | exact congrArg not hok | exact congrArg not hcl | exact congrArg not hc | exact g2)
      rfl
    · rw [hb] at hc
      repeat (conv => lhs; whnf; arg 2; tactic => first | exact g1 | exact hok | exact hcl | exact hc | exact congrArg not hok | exact congrArg not hcl | exact congrArg not hc | exact g2)
      rfl
theorem ev_changed_gone (p : PoolM) (hs : PoolSz p) (nm : Str) : W f_impl_changed [poolA p, .fn f_impl_PoolGone_c1 [.ep .br (poolDs p) 0, .ep .br [.str nm] 0]] [] = some (if poolOk p then poolR (poolGone p nm) else noPool) := by
  have hok := ev_PoolOk h p hs
  rw [h.call]
  cases hp : poolOk p
  · rw [hp] at hok
    repeat (conv => lhs; whnf; arg 2; tactic => first | exact g1 | exact hok | exact congrArg not hok | exact g2)
    rfl
  · rw [hp] at hok
    have hg := poolOk_G hp
    have hcl := ev_Pool_clone h p hs.v (by rw [hg.h8]; omega) (by have := hg.hl; omega) (fun v hv => by have := hg.hb v hv; omega)
    have hc := ev_gone_c1 h p (by have := hg.hl; omega) (fun v hv => by have := hg.hb v hv; omega) hg.h8 (fun x hx => by have := hg.hu x hx; omega) hg.hb8 nm
    unfold poolGone
    cases hx : volIx p.vols nm with
    | none =>
      rw [hx] at hc
      repeat (conv => lhs; whnf; arg 2; tactic => first | exact g1 | exact hok | exact hcl | exact hc | exact congrArg not hok | exact congrArg not hcl | exact congrArg not hc | exact g2)
      rfl
    | some i =>
      rw [hx] at hc
      repeat (conv => lhs; whnf; arg 2; tactic => first | exact g1 | exact hok | exact hcl | exact hc | exact congrArg not hok | exact congrArg not hcl | exact congrArg not hc | exact g2)
      rfl
end
end Go.Gn

namespace Go.Gn
open Go
set_option linter.unusedVariables false
set_option linter.unusedSimpArgs false
set_option maxRecDepth 100000
set_option maxHeartbeats 4000000
def poolDo (p : PoolM) (o : OpM) : PoolM × Bool := if o.kind = 1 then poolMake p o.name o.n else if o.kind = 2 then poolWrite p o.name o.n o.text else if o.kind = 3 then poolClone p o.name o.to else poolGone p o.name
def opDo (p : PoolM) (o : OpM) : AV × List Obj := if poolOk p then (if opOk o then poolR (poolDo p o) else noPool) else noPool
def doAllM : PoolM → List OpM → Option PoolM
  | p, [] => some p
  | p, o :: os => if poolOk p && opOk o && (poolDo p o).2 then doAllM (poolDo p o).1 os else none
abbrev SmS (s : Str) : Prop := s.size < 4611686018427387904
theorem sm_no : SmS noText := by show (0 : Nat) < _; omega
def TxS (xs : List SlotM) : Prop := ∀ x ∈ xs, SmS x.text
theorem TxS.set {xs : List SlotM} (h : TxS xs) {i : Nat} {y : SlotM} (hy : SmS y.text) : TxS (xs.set i y) := by
  intro x hx
  rcases List.mem_or_eq_of_mem_set hx with hx | rfl
  · exact h x hx
  · exact hy
theorem freeM_T {xs : List SlotM} (h : TxS xs) (b : Int) : TxS (freeM xs b) := by
  unfold freeM
  split
  · split
    · rename_i y hy
      refine h.set ?_
      unfold SlotM.dec
      split
      · exact sm_no
      · exact h y (List.mem_of_getElem? hy)
    · exact h
  · exact h
theorem incM_T {xs : List SlotM} (h : TxS xs) (b : Int) : TxS (incM xs b) := by
  unfold incM
  split
  · split
    · rename_i y hy
      exact h.set (h y (List.mem_of_getElem? hy))
    · exact h
  · exact h
theorem incL_T {xs : List SlotM} (h : TxS xs) : ∀ (bs : List Int), TxS (incL xs bs) := by
  intro bs
  induction bs generalizing xs with
  | nil => exact h
  | cons b bs ih => exact ih (incM_T h b)
theorem freeL_T {xs : List SlotM} (h : TxS xs) : ∀ (bs : List Int), TxS (freeL xs bs) := by
  intro bs
  induction bs generalizing xs with
  | nil => exact h
  | cons b bs ih => exact ih (freeM_T h b)
theorem incL_length : ∀ (bs : List Int) (xs : List SlotM), (incL xs bs).length = xs.length
  | [], xs => rfl
  | b :: bs, xs => by rw [incL, incL_length bs, incM_length]
theorem freeL_length : ∀ (bs : List Int) (xs : List SlotM), (freeL xs bs).length = xs.length
  | [], xs => rfl
  | b :: bs, xs => by rw [freeL, freeL_length bs, freeM_length]
theorem probe_sz (xs : List SlotM) (t : Str) (ht : SmS t) (h : TxS xs) : ∀ m p, TxS (probe xs t m p).1 ∧ (probe xs t m p).1.length = xs.length
  | 0, p => ⟨h, rfl⟩
  | m + 1, p => by
    simp only [probe]
    split
    · split
      · exact ⟨h.set ht, by simp⟩
      · exact probe_sz xs t ht h m _
    · exact ⟨h, rfl⟩
theorem putM_sz {xs : List SlotM} {t : Str} (ht : SmS t) (h : TxS xs) : TxS (putM xs t).1 ∧ (putM xs t).1.length = xs.length := by
  unfold putM
  split
  · exact probe_sz xs t ht h _ _
  · split
    · rename_i x hx
      split
      · exact ⟨h, rfl⟩
      · exact ⟨h.set (h x (List.mem_of_getElem? hx)), by simp⟩
    · exact ⟨h, rfl⟩
theorem fillM_sz {xs : List SlotM} {t : Str} (ht : SmS t) (h : TxS xs) : TxS (fillM xs t).1 ∧ (fillM xs t).1.length = xs.length := by
  unfold fillM
  split
  · exact ⟨h, rfl⟩
  · exact putM_sz ht h
theorem insV_mem {vs : List VolM} {v u : VolM} (h : u ∈ insV vs v) : u = v ∨ u ∈ vs := by
  simp only [insV, List.mem_append, List.mem_singleton] at h
  rcases h with (h | h) | h
  · exact .inr (List.mem_of_mem_take h)
  · exact .inl h
  · exact .inr (List.mem_of_mem_drop h)
theorem delV_mem {vs : List VolM} {i : Nat} {u : VolM} (h : u ∈ delV vs i) : u ∈ vs := by
  simp only [delV, List.mem_append] at h
  exact h.elim List.mem_of_mem_take List.mem_of_mem_drop
theorem PoolG.sz {p : PoolM} (h8 : p.slots.length = 8) (hl : p.vols.length ≤ 100) (hb : ∀ v ∈ p.vols, v.blocks.length ≤ 100) (ht : TxS p.slots) : PoolSz p := ⟨⟨by omega, ht⟩, ⟨by omega, fun v hv => by have := hb v hv; omega⟩⟩
theorem poolDo_sz {p : PoolM} (hg : PoolG p) (hs : PoolSz p) {o : OpM} (ho : o.Sz) : PoolSz (poolDo p o).1 := by
  have hl := hg.hl
  have same : PoolSz p := hs
  unfold poolDo
  split
  · unfold poolMake
    split
    · exact same
    · rename_i hb
      simp only [makeBad, Bool.or_eq_true, Bool.not_eq_true', not_or, inR] at hb
      obtain ⟨_, _, hr⟩ := hb
      have hr : (decide (1 ≤ o.n) && decide (o.n ≤ 6)) = true := by simpa using hr
      simp only [Bool.and_eq_true, decide_eq_true_eq] at hr
      refine PoolG.sz hg.h8 (by simp only [makeM, insV_length]; omega) (fun v hv => ?_) hs.s.2
      rcases insV_mem hv with rfl | hv
      · simp only [List.length_replicate]; omega
      · have := hg.hb v hv; omega
  · split
    · unfold poolWrite
      split
      · exact same
      · split
        · split
          · rename_i i hx ht hw
            unfold wrM
            split
            · rename_i v hv
              split
              · rename_i old ho'
                have hf := fillM_sz (xs := freeM p.slots old) ho.2.2 (freeM_T hs.s.2 old)
                refine PoolG.sz (by rw [hf.2, freeM_length]; exact hg.h8) (by simp only [List.length_set]; omega) (fun u hu => ?_) hf.1
                rcases List.mem_or_eq_of_mem_set hu with hu | rfl
                · have := hg.hb u hu; omega
                · have := hg.hb v (List.mem_of_getElem? hv); simp only [List.length_set]; omega
              · exact same
            · exact same
          · exact same
        · exact same
    · split
      · unfold poolClone
        split
        · exact same
        · unfold clM
          split
          · rename_i v hv
            refine PoolG.sz (by rw [incL_length]; exact hg.h8) (by simp only [insV_length]; omega) (fun u hu => ?_) (incL_T hs.s.2 _)
            rcases insV_mem hu with rfl | hu
            · have := hg.hb v (List.mem_of_getElem? hv); simp only; omega
            · have := hg.hb u hu; omega
          · exact same
      · unfold poolGone
        split
        · exact same
        · unfold goM
          split
          · rename_i i hx v hv
            refine PoolG.sz (by rw [freeL_length]; exact hg.h8) ?_ (fun u hu => ?_) (freeL_T hs.s.2 _)
            · simp only [delV, List.length_append, List.length_take, List.length_drop]; omega
            · have := hg.hb u (delV_mem hu); omega
          · exact same
section
variable {W : CallF} {L : LoopF} {E : EqF} {T : Prop → Bool} (h : IsK G W L E T)
include h
theorem ev_PoolMake (p : PoolM) (hs : PoolSz p) (nm : Str) (sz : Int) : W f_impl_PoolMake [poolA p, .str nm, .int .i64 sz] [] = some (if poolOk p then poolR (poolMake p nm sz) else noPool) := by
  have hc := ev_changed_make h p hs nm sz
  rw [h.call]
  cases hp : poolOk p
  · rw [hp] at hc
    repeat (conv => lhs; whnf; arg 2; tactic => first | exact g1 | exact hc | exact congrArg not hc | exact g2)
    rfl
  · rw [hp] at hc
    repeat (conv => lhs; whnf; arg 2; tactic => first | exact g1 | exact hc | exact congrArg not hc | exact g2)
    rfl
theorem ev_PoolWrite (p : PoolM) (hs : PoolSz p) (nm : Str) (b : Int) (t : Str) (ht : SmS t) : W f_impl_PoolWrite [poolA p, .str nm, .int .i64 b, .str t] [] = some (if poolOk p then poolR (poolWrite p nm b t) else noPool) := by
  have hc := ev_changed_write h p hs nm b t ht
  rw [h.call]
  cases hp : poolOk p
  · rw [hp] at hc
    repeat (conv => lhs; whnf; arg 2; tactic => first | exact g1 | exact hc | exact congrArg not hc | exact g2)
    rfl
  · rw [hp] at hc
    repeat (conv => lhs; whnf; arg 2; tactic => first | exact g1 | exact hc | exact congrArg not hc | exact g2)
    rfl
theorem ev_PoolClone (p : PoolM) (hs : PoolSz p) (fr to : Str) : W f_impl_PoolClone [poolA p, .str fr, .str to] [] = some (if poolOk p then poolR (poolClone p fr to) else noPool) := by
  have hc := ev_changed_clone h p hs fr to
  rw [h.call]
  cases hp : poolOk p
  · rw [hp] at hc
    repeat (conv => lhs; whnf; arg 2; tactic => first | exact g1 | exact hc | exact congrArg not hc | exact g2)
    rfl
  · rw [hp] at hc
    repeat (conv => lhs; whnf; arg 2; tactic => first | exact g1 | exact hc | exact congrArg not hc | exact g2)
    rfl
theorem ev_PoolGone (p : PoolM) (hs : PoolSz p) (nm : Str) : W f_impl_PoolGone [poolA p, .str nm] [] = some (if poolOk p then poolR (poolGone p nm) else noPool) := by
  have hc := ev_changed_gone h p hs nm
  rw [h.call]
  cases hp : poolOk p
  · rw [hp] at hc
    repeat (conv => lhs; whnf; arg 2; tactic => first | exact g1 | exact hc | exact congrArg not hc | exact g2)
    rfl
  · rw [hp] at hc
    repeat (conv => lhs; whnf; arg 2; tactic => first | exact g1 | exact hc | exact congrArg not hc | exact g2)
    rfl
theorem ev_OpDo (p : PoolM) (hs : PoolSz p) (o : OpM) (ho : o.Sz) : W f_impl_OpDo [poolA p, .agg (opC o)] [] = some (opDo p o) := by
  have hok := ev_PoolOk h p hs
  have hoo := ev_OpOk h o ho
  have h1 := ev_PoolMake h p hs o.name o.n
  have h2 := ev_PoolWrite h p hs o.name o.n o.text ho.2.2
  have h3 := ev_PoolClone h p hs o.name o.to
  have h4 := ev_PoolGone h p hs o.name
  have n1 : ∀ {a b : Int}, ¬ a = b → (a == b) = false := fun hab => by simp [hab]
  unfold opDo
  rw [h.call]
  cases hp : poolOk p
  · rw [hp] at hok
    repeat (conv => lhs; whnf; arg 2; tactic => first | exact g1 | exact hok | exact congrArg not hok | exact g2)
    rfl
  · rw [hp] at hok h1 h2 h3 h4
    simp only [if_true] at h1 h2 h3 h4
    cases hq : opOk o
    · rw [hq] at hoo
      repeat (conv => lhs; whnf; arg 2; tactic => first | exact g1 | exact hok | exact hoo | exact congrArg not hok | exact congrArg not hoo | exact g2)
      rfl
    · rw [hq] at hoo
      unfold poolDo
      by_cases k1 : o.kind = 1
      · have e1 : (o.kind == 1) = true := by simp [k1]
        simp only [if_pos k1]
        repeat (conv => lhs; whnf; arg 2; tactic => first | exact g1 | exact hok | exact hoo | exact e1 | exact h1 | exact congrArg not hok | exact congrArg not hoo | exact congrArg not e1 | exact congrArg not h1 | exact g2)
        rfl
      · have e1 := n1 k1
        by_cases k2 : o.kind = 2
        · have e2 : (o.kind == 2) = true := by simp [k2]
          simp only [if_neg k1, if_pos k2]
          repeat (conv => lhs; whnf; arg 2; tactic => first | exact g1 | exact hok | exact hoo | exact e1 | exact e2 | exact h2 | exact congrArg not hok | exact congrArg not hoo | exact congrArg not e1 | exact congrArg not e2 | exact congrArg not h2 | exact g2)
          rfl
        · have e2 := n1 k2
          by_cases k3 : o.kind = 3
          · have e3 : (o.kind == 3) = true := by simp [k3]
            simp only [if_neg k1, if_neg k2, if_pos k3]
            repeat (conv => lhs; whnf; arg 2; tactic => first | exact g1 | exact hok | exact hoo | exact e1 | exact e2 | exact e3 | exact h3 | exact congrArg not hok | exact congrArg not hoo | exact congrArg not e1 | exact congrArg not e2 | exact congrArg not e3 | exact congrArg not h3 | exact g2)
            rfl
          · have e3 := n1 k3
            simp only [if_neg k1, if_neg k2, if_neg k3]
            repeat (conv => lhs; whnf; arg 2; tactic => first | exact g1 | exact hok | exact hoo | exact e1 | exact e2 | exact e3 | exact h4 | exact congrArg not hok | exact congrArg not hoo | exact congrArg not e1 | exact congrArg not e2 | exact congrArg not e3 | exact congrArg not h4 | exact g2)
            rfl
end
end Go.Gn

namespace Go.Gn
open Go
set_option linter.unusedVariables false
set_option linter.unusedSimpArgs false
set_option maxRecDepth 100000
set_option maxHeartbeats 4000000
def OpsSz (os : List OpM) : Prop := os.length < 2000000 ∧ ∀ o ∈ os, o.Sz
def runOs (p : PoolM) : List Obj := [.box [.hw 1, .hw 2], .row 2 0 2 (p.slots.map slotD), .row 2 p.vols.length 1 (p.vols.map volD), .box [.nils, .nils]]
section
variable {W : CallF} {L : LoopF} {E : EqF} {T : Prop → Bool} (h : IsK G W L E T)
include h
theorem doAll_loop (ops : List OpM) (hs : OpsSz ops) : ∀ (m i : Nat) (p : PoolM), i + m = ops.length → PoolSz p →
    match doAllM p (ops.drop i) with
    | some q => L (norm 0 cf101.live) (exitN 0 cf101.out (evCW W L G cf101 0 c101l0)) ⟨[(2, .ptr 0 0), (4, .ptr 3 0), (16, .sl .br (ops.map opD)), (17, .int .i64 ((ops.map opD).length : Nat)), (18, .int .i64 (i : Nat))], runOs p⟩ = some (.ext 0, ⟨[(2, .ptr 0 0), (4, .ptr 3 0), (5, .top)], runOs q⟩)
    | none => ∃ p', L (norm 0 cf101.live) (exitN 0 cf101.out (evCW W L G cf101 0 c101l0)) ⟨[(2, .ptr 0 0), (4, .ptr 3 0), (16, .sl .br (ops.map opD)), (17, .int .i64 ((ops.map opD).length : Nat)), (18, .int .i64 (i : Nat))], runOs p⟩ = some (.ret, ⟨[(2, .ptr 0 0), (4, .ptr 3 0), (5, .bool false)], runOs p'⟩)
  | 0, i, p, hm, hp => by
    rw [List.drop_eq_nil_of_le (show ops.length ≤ i by omega)]
    simp only [doAllM]
    rw [h.loop]
    repeat (conv => lhs; whnf; arg 2; tactic => first | exact g1 | exact g2)
    rfl
  | m + 1, i, p, hm, hp => by
    obtain ⟨o, ho⟩ := get_some (xs := ops) (i := i) (by omega)
    have hl := hs.1
    have hos := hs.2 o (List.mem_of_getElem? ho)
    have hd := ev_OpDo h p hp o hos
    rw [drop_cons ho, doAllM]
    cases hok : poolOk p && opOk o
    · have hn : opDo p o = noPool := by
        unfold opDo
        cases hp1 : poolOk p
        · rfl
        · rw [hp1] at hok
          simp only [Bool.true_and] at hok
          rw [hok]; rfl
      rw [hn] at hd
      simp only [Bool.false_and, Bool.false_eq_true, if_false]
      refine ⟨p, ?_⟩
      rw [h.loop]
      repeat (conv => lhs; whnf; arg 2; tactic => first | exact g1 | exact map_get ho | exact hd | exact congrArg not hd | exact g2)
      rfl
    · have hok' := hok
      rw [Bool.and_eq_true] at hok'
      have hn : opDo p o = poolR (poolDo p o) := by unfold opDo; rw [hok'.1, hok'.2]; rfl
      rw [hn] at hd
      have hsz := poolDo_sz (poolOk_G hok'.1) hp hos
      simp only [Bool.true_and]
      generalize poolDo p o = r at hd hsz
      obtain ⟨q, b⟩ := r
      cases b
      · simp only [Bool.false_eq_true, if_false]
        refine ⟨p, ?_⟩
        rw [h.loop]
        repeat (conv => lhs; whnf; arg 2; tactic => first | exact g1 | exact map_get ho | exact hd | exact congrArg not hd | exact g2)
        rfl
      · simp only [if_true]
        have ih := doAll_loop ops hs m (i + 1) q (by omega) hsz
        have e : L (norm 0 cf101.live) (exitN 0 cf101.out (evCW W L G cf101 0 c101l0)) ⟨[(2, .ptr 0 0), (4, .ptr 3 0), (16, .sl .br (ops.map opD)), (17, .int .i64 ((ops.map opD).length : Nat)), (18, .int .i64 (i : Nat))], runOs p⟩ = L (norm 0 cf101.live) (exitN 0 cf101.out (evCW W L G cf101 0 c101l0)) ⟨[(2, .ptr 0 0), (4, .ptr 3 0), (16, .sl .br (ops.map opD)), (17, .int .i64 ((ops.map opD).length : Nat)), (18, .int .i64 ((i + 1 : Nat) : Int))], runOs q⟩ := by
          rw [h.loop]
          repeat (conv => lhs; whnf; arg 2; tactic => first | exact g1 | exact map_get ho | exact hd | exact congrArg not hd | exact g2)
          conv => lhs; whnf
          rw [wrap_succ (by omega)]
          rfl
        rw [e]
        exact ih
theorem ev_doAll (p : PoolM) (hp : PoolSz p) (ops : List OpM) (hs : OpsSz ops) : W f_impl_doAll [poolA p, .sl .br (ops.map opD)] [] = some (if poolOk p then (match doAllM p ops with | some q => poolR (q, true) | none => noPool) else noPool) := by
  have hok := ev_PoolOk h p hp
  have e := doAll_loop h ops hs ops.length 0 p (by omega) hp
  rw [nc0, List.drop_zero] at e
  rw [h.call]
  cases hpo : poolOk p
  · rw [hpo] at hok
    repeat (conv => lhs; whnf; arg 2; tactic => first | exact g1 | exact hok | exact congrArg not hok | exact g2)
    rfl
  · rw [hpo] at hok
    have hg := poolOk_G hpo
    have hcl := ev_Pool_clone h p hp.v (by rw [hg.h8]; omega) (by have := hg.hl; omega) (fun v hv => by have := hg.hb v hv; omega)
    simp only [if_true]
    cases hd : doAllM p ops with
    | some q =>
      rw [hd] at e
      repeat (conv => lhs; whnf; arg 2; tactic => first | exact g1 | exact hok | exact hcl | exact e | exact congrArg not hok | exact congrArg not hcl | exact congrArg not e | exact g2)
      rfl
    | none =>
      rw [hd] at e
      obtain ⟨p', e⟩ := e
      repeat (conv => lhs; whnf; arg 2; tactic => first | exact g1 | exact hok | exact hcl | exact e | exact congrArg not hok | exact congrArg not hcl | exact congrArg not e | exact g2)
      rfl
end
end Go.Gn

namespace Go.Gn
open Go
set_option linter.unusedVariables false
set_option linter.unusedSimpArgs false
set_option maxRecDepth 100000
set_option maxHeartbeats 4000000
structure MsgSz (m : MsgM) : Prop where
  op : m.op.Sz
  ops : OpsSz m.ops
theorem doAllM_sz : ∀ (os : List OpM) (p q : PoolM), PoolSz p → (∀ o ∈ os, o.Sz) → doAllM p os = some q → PoolSz q
  | [], p, q, hp, _, h => by cases h; exact hp
  | o :: os, p, q, hp, hs, h => by
    simp only [doAllM] at h
    split at h
    · rename_i hh
      simp only [Bool.and_eq_true] at hh
      exact doAllM_sz os _ q (poolDo_sz (poolOk_G hh.1.1) hp (hs o (by simp))) (fun x hx => hs x (by simp [hx])) h
    · cases h
section
variable {W : CallF} {L : LoopF} {E : EqF} {T : Prop → Bool} (h : IsK G W L E T)
include h
end
end Go.Gn

namespace Go.Gn
open Go
set_option linter.unusedVariables false
set_option linter.unusedSimpArgs false
set_option maxRecDepth 100000
set_option maxHeartbeats 4000000
theorem app_row (os : List OpM) (o : OpM) : (os.map opD) ++ chunks 5 1 [D.int .i64 o.kind, .str o.name, .str o.to, .int .i64 o.n, .str o.text] = (os ++ [o]).map opD := by
  rw [List.map_append]; rfl
section
variable {W : CallF} {L : LoopF} {E : EqF} {T : Prop → Bool} (h : IsK G W L E T)
include h
end
end Go.Gn

namespace Go.Gn
open Go
set_option linter.unusedVariables false
set_option linter.unusedSimpArgs false
set_option maxRecDepth 100000
set_option maxHeartbeats 4000000
def sName (s : Str) : Bool := match (s.size : Int) == 1 with
  | true => inR (byteAt s 0) 65 68
  | false => false
def sOpOk (o : OpM) : Bool := sName o.name && (if o.kind = 1 then seq o.to noText && (inR o.n 1 6 && seq o.text noText)
  else if o.kind = 2 then seq o.to noText && (inR o.n 0 5 && textOk o.text)
  else if o.kind = 3 then sName o.to && ((o.n == 0) && seq o.text noText)
  else if o.kind = 4 then seq o.to noText && ((o.n == 0) && seq o.text noText)
  else false)
def findS (xs : List SlotM) (t : Str) : Nat → Int → Int → Int × Bool
  | 0, _, free => (free, false)
  | m + 1, at_, free => match xs[(at_ - 1).toNat]? with
    | some x => if seq x.text t then (at_, true) else findS xs t m (textNext at_) (if (x.uses == 0) && (free == 0) then at_ else free)
    | none => (0, false)
def putS (xs : List SlotM) (t : Str) : List SlotM × Int × Bool := match findS xs t 8 (textPlace t) 0 with
  | (p, _) => match xs[(p - 1).toNat]? with
    | some x => if (p == 0) || decide (x.uses ≥ 99) then (xs, 0, false) else (xs.set (p - 1).toNat ⟨t, x.uses + 1⟩, p, true)
    | none => (xs, 0, false)
section
variable {W : CallF} {L : LoopF} {E : EqF} {T : Prop → Bool} (h : IsK G W L E T)
include h
theorem ev_l3Name (s : Str) : W f_spec_l3Name [.str s] [] = some (.bool (sName s), []) := by
  unfold sName
  rw [h.call]
  cases hz : ((s.size : Int) == 1)
  · repeat (conv => lhs; whnf; arg 2; tactic => first | exact g1 | exact hz | exact congrArg not hz | exact g2)
    rfl
  · have hz' : (s.size : Int) = 1 := by simpa using hz
    have hd : decide (0 < s.size) = true := decide_eq_true (by omega)
    have hw : W f_spec_l6In [.int .i64 (IntKind.i64.wrap (byteAt s 0)), .int .i64 65, .int .i64 68] [] = some (.bool (inR (byteAt s 0) 65 68), []) := by rw [wrap_byte]; exact ev_l6In h _ _ _
    repeat (conv => lhs; whnf; arg 2; tactic => first | exact g1 | exact hz | exact hd | exact hw | exact congrArg not hz | exact congrArg not hd | exact congrArg not hw | exact g2)
    rfl
theorem ev_sOpOk (o : OpM) (hs : o.Sz) : W f_spec_OpOk [.agg (opC o)] [] = some (.bool (sOpOk o), []) := by
  have n1 : ∀ {a b : Int}, ¬ a = b → (a == b) = false := fun hab => by simp [hab]
  have hn := ev_l3Name h o.name
  have hn2 := ev_l3Name h o.to
  unfold sOpOk
  rw [h.call]
  cases hc : sName o.name
  · rw [hc] at hn
    repeat (conv => lhs; whnf; arg 2; tactic => first | exact g1 | exact hn | exact congrArg not hn | exact g2)
    rfl
  · rw [hc] at hn
    by_cases k1 : o.kind = 1
    · have e1 : (o.kind == 1) = true := by simp [k1]
      simp only [if_pos k1]
      cases hq : seq o.to noText
      · repeat (conv => lhs; whnf; arg 2; tactic => first | exact g1 | exact hn | exact e1 | exact hq | exact congrArg not hn | exact congrArg not e1 | exact congrArg not hq | exact g2)
        rfl
      · cases hr : inR o.n 1 6
        · repeat (conv => lhs; whnf; arg 2; tactic => first | exact g1 | exact hn | exact e1 | exact hq | exact ev_l6In h _ _ _ | exact hr | exact congrArg not hn | exact congrArg not e1 | exact congrArg not hq | exact congrArg not hr | exact g2)
          rfl
        · repeat (conv => lhs; whnf; arg 2; tactic => first | exact g1 | exact hn | exact e1 | exact hq | exact ev_l6In h _ _ _ | exact hr | exact congrArg not hn | exact congrArg not e1 | exact congrArg not hq | exact congrArg not hr | exact g2)
          rfl
    · have e1 := n1 k1
      by_cases k2 : o.kind = 2
      · have e2 : (o.kind == 2) = true := by simp [k2]
        simp only [if_neg k1, if_pos k2]
        cases hq : seq o.to noText
        · repeat (conv => lhs; whnf; arg 2; tactic => first | exact g1 | exact hn | exact e1 | exact e2 | exact hq | exact congrArg not hn | exact congrArg not e1 | exact congrArg not e2 | exact congrArg not hq | exact g2)
          rfl
        · cases hr : inR o.n 0 5
          · repeat (conv => lhs; whnf; arg 2; tactic => first | exact g1 | exact hn | exact e1 | exact e2 | exact hq | exact ev_l6In h _ _ _ | exact hr | exact congrArg not hn | exact congrArg not e1 | exact congrArg not e2 | exact congrArg not hq | exact congrArg not hr | exact g2)
            rfl
          · repeat (conv => lhs; whnf; arg 2; tactic => first | exact g1 | exact hn | exact e1 | exact e2 | exact hq | exact ev_l6In h _ _ _ | exact hr | exact ev_sTextOk h _ hs.2.2 | exact congrArg not hn | exact congrArg not e1 | exact congrArg not e2 | exact congrArg not hq | exact congrArg not hr | exact g2)
            rfl
      · have e2 := n1 k2
        by_cases k3 : o.kind = 3
        · have e3 : (o.kind == 3) = true := by simp [k3]
          simp only [if_neg k1, if_neg k2, if_pos k3]
          cases hq : sName o.to
          · rw [hq] at hn2
            repeat (conv => lhs; whnf; arg 2; tactic => first | exact g1 | exact hn | exact e1 | exact e2 | exact e3 | exact hn2 | exact congrArg not hn | exact congrArg not e1 | exact congrArg not e2 | exact congrArg not e3 | exact congrArg not hn2 | exact g2)
            rfl
          · rw [hq] at hn2
            cases hz : (o.n == 0)
            · repeat (conv => lhs; whnf; arg 2; tactic => first | exact g1 | exact hn | exact e1 | exact e2 | exact e3 | exact hn2 | exact hz | exact congrArg not hn | exact congrArg not e1 | exact congrArg not e2 | exact congrArg not e3 | exact congrArg not hn2 | exact congrArg not hz | exact g2)
              rfl
            · repeat (conv => lhs; whnf; arg 2; tactic => first | exact g1 | exact hn | exact e1 | exact e2 | exact e3 | exact hn2 | exact hz | exact congrArg not hn | exact congrArg not e1 | exact congrArg not e2 | exact congrArg not e3 | exact congrArg not hn2 | exact congrArg not hz | exact g2)
              rfl
        · have e3 := n1 k3
          by_cases k4 : o.kind = 4
          · have e4 : (o.kind == 4) = true := by simp [k4]
            simp only [if_neg k1, if_neg k2, if_neg k3, if_pos k4]
            cases hq : seq o.to noText
            · repeat (conv => lhs; whnf; arg 2; tactic => first | exact g1 | exact hn | exact e1 | exact e2 | exact e3 | exact e4 | exact hq | exact congrArg not hn | exact congrArg not e1 | exact congrArg not e2 | exact congrArg not e3 | exact congrArg not e4 | exact congrArg not hq | exact g2)
              rfl
            · cases hz : (o.n == 0)
              · repeat (conv => lhs; whnf; arg 2; tactic => first | exact g1 | exact hn | exact e1 | exact e2 | exact e3 | exact e4 | exact hq | exact hz | exact congrArg not hn | exact congrArg not e1 | exact congrArg not e2 | exact congrArg not e3 | exact congrArg not e4 | exact congrArg not hq | exact congrArg not hz | exact g2)
                rfl
              · repeat (conv => lhs; whnf; arg 2; tactic => first | exact g1 | exact hn | exact e1 | exact e2 | exact e3 | exact e4 | exact hq | exact hz | exact congrArg not hn | exact congrArg not e1 | exact congrArg not e2 | exact congrArg not e3 | exact congrArg not e4 | exact congrArg not hq | exact congrArg not hz | exact g2)
                rfl
          · have e4 := n1 k4
            simp only [if_neg k1, if_neg k2, if_neg k3, if_neg k4]
            repeat (conv => lhs; whnf; arg 2; tactic => first | exact g1 | exact hn | exact e1 | exact e2 | exact e3 | exact e4 | exact congrArg not hn | exact congrArg not e1 | exact congrArg not e2 | exact congrArg not e3 | exact congrArg not e4 | exact g2)
            rfl
theorem at_loop (p : PoolM) (hl : p.vols.length < 4611686018427387904) (n : Str) : ∀ m i, i + m = p.vols.length → L (norm 0 cf184.live) (exitN 0 cf184.out (evCW W L G cf184 0 c184l0)) ⟨[(1, .str n), (2, .ptr 0 0), (5, .int .i64 (i : Nat))], [boxP p]⟩ =
    some (match fnd (fun v : VolM => seq v.name n) (p.vols.drop i) i with | none => (.ext 0, ⟨[(4, .top)], []⟩) | some j => (.ret, ⟨[(4, .int .i64 (j : Nat))], []⟩))
  | 0, i, hm => by
    rw [h.loop, List.drop_eq_nil_of_le (show p.vols.length ≤ i by omega)]
    repeat (conv => lhs; whnf; arg 2; tactic => first | exact g1 | exact g2)
    rfl
  | m + 1, i, hm => by
    obtain ⟨v, hv⟩ := get_some (xs := p.vols) (i := i) (by omega)
    rw [h.loop, drop_cons hv]
    simp only [fnd]
    cases hq : seq v.name n
    · repeat (conv => lhs; whnf; arg 2; tactic => first | exact g1 | exact map_get hv | exact hq | exact congrArg not hq | exact g2)
      conv => lhs; whnf
      rw [wrap_succ (by omega)]
      exact at_loop p hl n m (i + 1) (by omega)
    · repeat (conv => lhs; whnf; arg 2; tactic => first | exact g1 | exact map_get hv | exact hq | exact congrArg not hq | exact g2)
      rfl
theorem ev_l11At (p : PoolM) (hl : p.vols.length < 4611686018427387904) (n : Str) : W f_spec_l11At [poolA p, .str n] [] = some (.int .i64 (fndI (volIx p.vols n)), []) := by
  have e := at_loop h p hl n p.vols.length 0 (by omega)
  rw [nc0, List.drop_zero] at e
  unfold volIx
  rw [h.call]
  cases hf : fnd (fun v : VolM => seq v.name n) p.vols 0 with
  | none =>
    rw [hf] at e
    repeat (conv => lhs; whnf; arg 2; tactic => first | exact g1 | exact e | exact congrArg not e | exact g2)
    rfl
  | some j =>
    rw [hf] at e
    repeat (conv => lhs; whnf; arg 2; tactic => first | exact g1 | exact e | exact congrArg not e | exact g2)
    rfl
theorem find_loop (xs : List SlotM) (h8 : xs.length = 8) (t : Str) : ∀ (m i : Nat) (p fr : Int), i + m = 8 → inR p 1 8 = true → ∃ b5 : AV, L (norm 0 cf202.live) (exitN 0 cf202.out (evCW W L G cf202 0 c202l0)) ⟨[(0, .sl .br (xs.map slotD)), (1, .str t), (6, .int .i64 p), (7, .int .i64 fr), (8, .int .i64 (i : Nat))], []⟩ =
    some (if (findS xs t m p fr).2 then (.ret, ⟨[(4, .int .i64 (findS xs t m p fr).1), (5, .bool true), (7, b5)], []⟩) else (.ext 0, ⟨[(4, .top), (5, .top), (7, .int .i64 (findS xs t m p fr).1)], []⟩))
  | 0, i, p, fr, hi, hp => by
    refine ⟨.un, ?_⟩
    rw [h.loop]
    repeat (conv => lhs; whnf; arg 2; tactic => first | exact g1 | exact g2)
    rfl
  | m + 1, i, p, fr, hi, hp => by
    have hp' := hp
    simp only [inR, Bool.and_eq_true, decide_eq_true_eq] at hp'
    obtain ⟨q, rfl⟩ : ∃ q : Nat, p = (q : Int) + 1 := ⟨(p - 1).toNat, by omega⟩
    have hq : ((q : Int) + 1 - 1).toNat = q := by omega
    obtain ⟨x, hx⟩ := get_some (xs := xs) (i := q) (by omega)
    have hnx : inR (textNext ((q : Int) + 1)) 1 8 = true := by have := textNext_range hp'.1; simp [inR]; omega
    have hN := ev_l1Next h _ hp
    simp only [findS, hq, hx]
    cases hs : seq x.text t
    · cases hu : (x.uses == 0)
      · obtain ⟨b5, ih⟩ := find_loop xs h8 t m (i + 1) (textNext ((q : Int) + 1)) fr (by omega) hnx
        refine ⟨b5, ?_⟩
        rw [h.loop]
        repeat (conv => lhs; whnf; arg 2; tactic => first | exact g1 | exact map_get hx | exact hs | exact hu | exact hN | exact congrArg not hs | exact congrArg not hu | exact congrArg not hN | exact g2)
        conv => lhs; whnf
        rw [wrap_succ (by omega)]
        exact ih
      · cases hf : (fr == 0)
        · obtain ⟨b5, ih⟩ := find_loop xs h8 t m (i + 1) (textNext ((q : Int) + 1)) fr (by omega) hnx
          refine ⟨b5, ?_⟩
          rw [h.loop]
          repeat (conv => lhs; whnf; arg 2; tactic => first | exact g1 | exact map_get hx | exact hs | exact hu | exact hf | exact hN | exact congrArg not hs | exact congrArg not hu | exact congrArg not hf | exact congrArg not hN | exact g2)
          conv => lhs; whnf
          rw [wrap_succ (by omega)]
          exact ih
        · obtain ⟨b5, ih⟩ := find_loop xs h8 t m (i + 1) (textNext ((q : Int) + 1)) ((q : Int) + 1) (by omega) hnx
          refine ⟨b5, ?_⟩
          rw [h.loop]
          repeat (conv => lhs; whnf; arg 2; tactic => first | exact g1 | exact map_get hx | exact hs | exact hu | exact hf | exact hN | exact congrArg not hs | exact congrArg not hu | exact congrArg not hf | exact congrArg not hN | exact g2)
          conv => lhs; whnf
          rw [wrap_succ (by omega)]
          exact ih
    · refine ⟨.int .i64 fr, ?_⟩
      rw [h.loop]
      repeat (conv => lhs; whnf; arg 2; tactic => first | exact g1 | exact map_get hx | exact hs | exact congrArg not hs | exact g2)
      rfl
theorem ev_l2Find (xs : List SlotM) (h8 : xs.length = 8) (t : Str) (ht : textOk t = true) : W f_spec_l2Find [.sl .br (xs.map slotD), .str t] [] = some (.tup [.int .i64 (findS xs t 8 (textPlace t) 0).1, .bool (findS xs t 8 (textPlace t) 0).2], []) := by
  obtain ⟨b5, e⟩ := find_loop h xs h8 t 8 0 (textPlace t) 0 (by omega) (by have := textPlace_range ht; simp [inR]; omega)
  have hp := ev_l1Place h t ht
  rw [nc0] at e
  generalize findS xs t 8 (textPlace t) 0 = r at e
  obtain ⟨a, b⟩ := r
  rw [h.call]
  cases b
  · repeat (conv => lhs; whnf; arg 2; tactic => first | exact g1 | exact hp | exact e | exact congrArg not hp | exact congrArg not e | exact g2)
    rfl
  · repeat (conv => lhs; whnf; arg 2; tactic => first | exact g1 | exact hp | exact e | exact congrArg not hp | exact congrArg not e | exact g2)
    rfl
theorem ev_l2Drop (xs : List SlotM) (j : Nat) (x : SlotM) (hx : xs[j]? = some x) (hj : j < 1000) (hu : -1000000 ≤ x.uses ∧ x.uses ≤ 1000000) : W f_spec_l2Drop [.hw 0, .int .i64 ((j : Int) + 1)] [.row 2 0 2 (xs.map slotD)] = some (.hw 0, [.row 2 0 2 ((xs.set j x.dec).map slotD)]) := by
  have hl := lt_of_get hx
  have es : (xs.map slotD).set j (splice (slotD x) (0 + 1) [D.int IntKind.i64 (IntKind.i64.wrap (x.uses - 1))]) = (xs.set j ⟨x.text, x.uses - 1⟩).map slotD := by
    rw [wrap_id (n := x.uses - 1) (by omega) (by omega), ← set_map]; rfl
  have hx1 : (xs.set j ⟨x.text, x.uses - 1⟩)[j]? = some ⟨x.text, x.uses - 1⟩ := by simp [hl]
  rw [h.call]
  repeat (conv => lhs; whnf; arg 2; tactic => first | exact g1 | exact map_get hx | exact g2)
  conv => lhs; whnf
  rw [es]
  unfold SlotM.dec
  by_cases h0 : x.uses - 1 = 0
  · rw [if_pos h0]
    have e0 : (x.uses - 1 == 0) = true := by simp [h0]
    repeat (conv => lhs; whnf; arg 2; tactic => first | exact g1 | exact map_get hx1 | exact e0 | exact congrArg not e0 | exact g2)
    conv => lhs; whnf
    have es2 : ((xs.set j ⟨x.text, x.uses - 1⟩).map slotD).set j (splice (slotD ⟨x.text, x.uses - 1⟩) 0 [D.str ⟨#[]⟩]) = (xs.set j ⟨⟨#[]⟩, 0⟩).map slotD := by
      rw [show splice (slotD ⟨x.text, x.uses - 1⟩) 0 [D.str ⟨#[]⟩] = slotD ⟨⟨#[]⟩, 0⟩ by rw [h0]; rfl, set_map, List.set_set]
    rw [es2]
  · rw [if_neg h0]
    have e0 : (x.uses - 1 == 0) = false := by simp [h0]
    repeat (conv => lhs; whnf; arg 2; tactic => first | exact g1 | exact map_get hx1 | exact e0 | exact congrArg not e0 | exact g2)
    rfl
end
end Go.Gn

namespace Go.Gn
open Go
set_option linter.unusedVariables false
set_option linter.unusedSimpArgs false
set_option maxRecDepth 100000
set_option maxHeartbeats 4000000
theorem take_snoc {α : Type} {xs : List α} {i : Nat} {x : α} (h : xs[i]? = some x) : xs.take (i + 1) = xs.take i ++ [x] := by
  rw [List.take_add_one, h]; rfl
section
variable {W : CallF} {L : LoopF} {E : EqF} {T : Prop → Bool} (h : IsK G W L E T)
include h
theorem ev_l2Copy (xs : List SlotM) (hl : xs.length < 1000000) : W f_spec_l2Copy [.sl .br (xs.map slotD)] [] = some (.hw 0, [.row 2 0 0 (xs.map slotD)]) := by
  have es : (xs.map slotD).map (·.map D.scrub) = xs.map slotD := scrub_map slotD (fun _ => rfl) xs
  have hd : decide ((0 + ((xs.map slotD).map (·.map D.scrub)).length) * 24 ≤ 140737488355328) = true := decide_eq_true (by rw [es, List.length_map]; omega)
  rw [h.call]
  repeat (conv => lhs; whnf; arg 2; tactic => first | exact g1 | exact szOk_map slotD 2 (fun _ => rfl) xs | exact hd | exact congrArg not hd | exact g2)
  conv => lhs; whnf
  rw [es]
  rfl
theorem ev_l3Copy (nm : Str) (bs : List Int) (hl : bs.length < 1000000) : W f_spec_l3Copy [.agg [.str nm, .sl .br (bs.map intD)]] [] = some (.agg [.str nm, .hw 0], [.row 1 0 0 (bs.map intD)]) := by
  have es : (bs.map intD).map (·.map D.scrub) = bs.map intD := scrub_map intD (fun _ => rfl) bs
  have hd : decide ((0 + ((bs.map intD).map (·.map D.scrub)).length) * 8 ≤ 140737488355328) = true := decide_eq_true (by rw [es, List.length_map]; omega)
  rw [h.call]
  repeat (conv => lhs; whnf; arg 2; tactic => first | exact g1 | exact szOk_map intD 1 (fun _ => rfl) bs | exact hd | exact congrArg not hd | exact g2)
  conv => lhs; whnf
  rw [es]
  rfl
theorem copy_loop (p : PoolM) (hl : p.vols.length < 1000000) (hb : ∀ v ∈ p.vols, v.blocks.length < 1000000) : ∀ (m i c : Nat), i + m = p.vols.length → c = (if i = 0 then 0 else 1) → L (norm 0 cf74.live) (exitN 0 cf74.out (evCW W L G cf74 0 c74l0)) ⟨[(1, .ptr 0 0), (2, .ptr 1 0), (3, .hw 2), (4, .int .i64 (i : Nat))], [boxP p, .box [.nils, .nils], .row 2 i c ((p.vols.take i).map volD)]⟩ =
    some (.ext 0, ⟨[(1, .ptr 0 0), (2, .ptr 1 0), (3, .hw 2)], [boxP p, .box [.nils, .nils], .row 2 p.vols.length (if p.vols.length = 0 then 0 else 1) (p.vols.map volD)]⟩)
  | 0, i, c, hm, hc => by
    have : i = p.vols.length := by omega
    subst this
    rw [h.loop, List.take_of_length_le (Nat.le_refl _), hc]
    repeat (conv => lhs; whnf; arg 2; tactic => first | exact g1 | exact g2)
    rfl
  | m + 1, i, c, hm, hc => by
    obtain ⟨v, hv⟩ := get_some (xs := p.vols) (i := i) (by omega)
    have hvb := hb v (List.mem_of_getElem? hv)
    have ih := copy_loop p hl hb m (i + 1) 1 (by omega) (by simp)
    have hlen : ((p.vols.take i).map volD).length = i := by simp; omega
    have hd : decide ((((p.vols.take i).map volD).length + 1) * 40 ≤ 140737488355328) = true := decide_eq_true (by rw [hlen]; omega)
    have hor : (Nat.beq ((p.vols.take i).map volD).length 0 || Nat.beq c 1) = true := by
      rw [hlen]
      by_cases hi : i = 0
      · subst hi; rfl
      · rw [hc, if_neg hi]; simp
    rw [h.loop]
    repeat (conv => lhs; whnf; arg 2; tactic => first | exact g1 | exact map_get hv | exact ev_l3Copy h _ _ hvb | exact hd | exact hor | exact congrArg not hd | exact congrArg not hor | exact g2)
    conv => lhs; whnf
    rw [wrap_succ (by omega), hlen]
    rw [take_snoc hv, List.map_append] at ih
    exact ih
theorem ev_l11Copy (p : PoolM) (hl : p.vols.length < 1000000) (hs : p.slots.length < 1000000) (hb : ∀ v ∈ p.vols, v.blocks.length < 1000000) : W f_spec_l11Copy [poolA p] [] = some (.agg [.hw 0, .hw 1], [.row 2 0 2 (p.slots.map slotD), .row 2 p.vols.length (if p.vols.length = 0 then 0 else 1) (p.vols.map volD)]) := by
  have e := copy_loop h p hl hb p.vols.length 0 0 (by omega) rfl
  have hc := ev_l2Copy h p.slots hs
  rw [nc0, List.take_zero] at e
  rw [h.call]
  repeat (conv => lhs; whnf; arg 2; tactic => first | exact g1 | exact e | exact hc | exact congrArg not e | exact congrArg not hc | exact g2)
  rfl
theorem ev_l2Put (xs : List SlotM) (h8 : xs.length = 8) (hu : SlotsB 1000000 xs) (t : Str) (ht : textOk t = true) (hf0 : 0 ≤ (findS xs t 8 (textPlace t) 0).1 ∧ (findS xs t 8 (textPlace t) 0).1 ≤ 8) : W f_spec_l2Put [.hw 0, .str t] [.row 2 0 2 (xs.map slotD)] = some (.tup [.hw 0, .int .i64 (putS xs t).2.1, .bool (putS xs t).2.2], [.row 2 0 2 ((putS xs t).1.map slotD)]) := by
  have hf := ev_l2Find h xs h8 t ht
  unfold putS
  generalize findS xs t 8 (textPlace t) 0 = r at hf hf0
  obtain ⟨a, b⟩ := r
  simp only at hf hf0 ⊢
  rw [h.call]
  by_cases h0 : a = 0
  · subst h0
    have hx : ∃ x, xs[((0 : Int) - 1).toNat]? = some x := get_some (by simp; omega)
    obtain ⟨x, hx⟩ := hx
    simp only [hx]
    repeat (conv => lhs; whnf; arg 2; tactic => first | exact g1 | exact hf | exact congrArg not hf | exact g2)
    rfl
  · obtain ⟨j, rfl⟩ : ∃ j : Nat, a = (j : Int) + 1 := ⟨(a - 1).toNat, by omega⟩
    have hj : ((j : Int) + 1 - 1).toNat = j := by omega
    obtain ⟨x, hx⟩ := get_some (xs := xs) (i := j) (by omega)
    have hux := hu x (List.mem_of_getElem? hx)
    have e0 : ((j : Int) + 1 == 0) = false := by simp; omega
    simp only [hj, hx, e0, Bool.false_or]
    cases h99 : decide (x.uses ≥ 99)
    · repeat (conv => lhs; whnf; arg 2; tactic => first | exact g1 | exact hf | exact e0 | exact map_get hx | exact h99 | exact congrArg not hf | exact congrArg not e0 | exact congrArg not h99 | exact g2)
      conv => lhs; whnf
      rw [wrap_id (n := x.uses + 1) (by omega) (by omega), show (xs.map slotD).set j (splice (slotD x) 0 [D.str t, D.int .i64 (x.uses + 1)]) = (xs.set j ⟨t, x.uses + 1⟩).map slotD by rw [← set_map]; rfl]
      rfl
    · repeat (conv => lhs; whnf; arg 2; tactic => first | exact g1 | exact hf | exact e0 | exact map_get hx | exact h99 | exact congrArg not hf | exact congrArg not e0 | exact congrArg not h99 | exact g2)
      rfl
end
end Go.Gn

namespace Go.Gn
open Go
set_option linter.unusedVariables false
set_option linter.unusedSimpArgs false
set_option maxRecDepth 100000
set_option maxHeartbeats 4000000
def gtS (a b : Str) : Bool := !(Op.bytesLess a.toList b.toList || a.toList == b.toList)
def insS (v : VolM) : List VolM → List VolM
  | [] => [v]
  | u :: us => if gtS u.name v.name then v :: u :: us else u :: insS v us
def anyG (v : VolM) (vs : List VolM) : Bool := vs.any fun u => gtS u.name v.name
theorem insS_none {v : VolM} : ∀ {vs : List VolM}, anyG v vs = false → insS v vs = vs ++ [v]
  | [], _ => rfl
  | u :: us, h => by
    simp only [anyG, List.any_cons, Bool.or_eq_false_iff] at h
    simp only [insS, h.1, Bool.false_eq_true, if_false, List.cons_append]
    rw [insS_none h.2]
def addOs (p : PoolM) (v : VolM) (b : Obj) (acc : List VolM) : List Obj := [.row 2 0 2 (p.slots.map slotD), .row 2 0 2 (p.vols.map volD), b, .box [.hw 0, .hw 1], .box [.str v.name, .hw 2], .box [.nils, .nils], .row 2 0 0 (acc.map volD)]
theorem app_vol (acc : List VolM) (v : VolM) : (acc.map volD) ++ chunks 2 1 [D.str v.name, D.sl (v.blocks.map intD)] = (acc ++ [v]).map volD := by
  rw [List.map_append]; rfl
section
variable {W : CallF} {L : LoopF} {E : EqF} {T : Prop → Bool} (h : IsK G W L E T)
include h
theorem add_loop1 (p : PoolM) (hl : p.vols.length < 1000) (v : VolM) (b : Obj) (hb : b = .frz 1 (v.blocks.map intD)) : ∀ (m i : Nat) (acc : List VolM), i + m = p.vols.length → acc.length ≤ i + 1 → L (norm 3 cf185.live) (exitN 3 cf185.out (evCW W L G cf185 3 c185l0)) ⟨[(2, .ptr 3 0), (3, .ptr 4 0), (4, .ptr 5 0), (5, .hw 6), (6, .bool true), (7, .int .i64 (i : Nat))], addOs p v b acc⟩ =
    some (.ext 0, ⟨[(2, .ptr 3 0), (3, .ptr 4 0), (4, .ptr 5 0), (5, .hw 6), (6, .bool true)], addOs p v b (acc ++ p.vols.drop i)⟩)
  | 0, i, acc, hm, ha => by
    subst hb
    rw [h.loop, List.drop_eq_nil_of_le (show p.vols.length ≤ i by omega), List.append_nil]
    repeat (conv => lhs; whnf; arg 2; tactic => first | exact g1 | exact g2)
    rfl
  | m + 1, i, acc, hm, ha => by
    have hb' := hb
    subst hb'
    obtain ⟨u, hu⟩ := get_some (xs := p.vols) (i := i) (by omega)
    have ih := add_loop1 p hl v (.frz 1 (v.blocks.map intD)) rfl m (i + 1) (acc ++ [u]) (by omega) (by simp; omega)
    have hd : decide (((acc.map volD).length + 1) * 40 ≤ 140737488355328) = true := decide_eq_true (by rw [List.length_map]; omega)
    rw [h.loop, drop_cons hu]
    repeat (conv => lhs; whnf; arg 2; tactic => first | exact g1 | exact map_get hu | exact hd | exact congrArg not hd | exact g2)
    conv => lhs; whnf
    rw [wrap_succ (by omega), app_vol]
    rw [List.append_assoc] at ih
    exact ih
theorem add_loop0 (p : PoolM) (hl : p.vols.length < 1000) (v : VolM) (c : Nat) : ∀ (m i : Nat) (acc : List VolM), i + m = p.vols.length → acc.length ≤ i → L (norm 3 cf185.live) (exitN 3 cf185.out (evCW W L G cf185 3 c185l0)) ⟨[(2, .ptr 3 0), (3, .ptr 4 0), (4, .ptr 5 0), (5, .hw 6), (6, .bool false), (7, .int .i64 (i : Nat))], addOs p v (.row 1 0 c (v.blocks.map intD)) acc⟩ =
    some (.ext 0, ⟨[(2, .ptr 3 0), (3, .ptr 4 0), (4, .ptr 5 0), (5, .hw 6), (6, .bool (anyG v (p.vols.drop i)))], if anyG v (p.vols.drop i) then addOs p v (.frz 1 (v.blocks.map intD)) (acc ++ insS v (p.vols.drop i)) else addOs p v (.row 1 0 c (v.blocks.map intD)) (acc ++ p.vols.drop i)⟩)
  | 0, i, acc, hm, ha => by
    rw [h.loop, List.drop_eq_nil_of_le (show p.vols.length ≤ i by omega), List.append_nil]
    repeat (conv => lhs; whnf; arg 2; tactic => first | exact g1 | exact g2)
    rfl
  | m + 1, i, acc, hm, ha => by
    obtain ⟨u, hu⟩ := get_some (xs := p.vols) (i := i) (by omega)
    have hd : decide (((acc.map volD).length + 1) * 40 ≤ 140737488355328) = true := decide_eq_true (by rw [List.length_map]; omega)
    have hd2 : decide ((((acc ++ [v]).map volD).length + 1) * 40 ≤ 140737488355328) = true := decide_eq_true (by simp; omega)
    rw [h.loop, drop_cons hu]
    cases hg : gtS u.name v.name
    · have ih := add_loop0 p hl v c m (i + 1) (acc ++ [u]) (by omega) (by simp; omega)
      have e1 : anyG v (u :: p.vols.drop (i + 1)) = anyG v (p.vols.drop (i + 1)) := by simp only [anyG, List.any_cons, hg, Bool.false_or]
      have e2 : insS v (u :: p.vols.drop (i + 1)) = u :: insS v (p.vols.drop (i + 1)) := by simp only [insS, hg, Bool.false_eq_true, if_false]
      rw [e1, e2]
      repeat (conv => lhs; whnf; arg 2; tactic => first | exact g1 | exact map_get hu | exact hd | exact hg | exact congrArg not hd | exact congrArg not hg | exact g2)
      conv => lhs; whnf
      rw [wrap_succ (by omega), app_vol]
      rw [List.append_assoc, List.append_assoc] at ih
      exact ih
    · have ih := add_loop1 h p hl v (.frz 1 (v.blocks.map intD)) rfl m (i + 1) (acc ++ [v] ++ [u]) (by omega) (by simp; omega)
      have e1 : anyG v (u :: p.vols.drop (i + 1)) = true := by simp only [anyG, List.any_cons, hg, Bool.true_or]
      have e2 : insS v (u :: p.vols.drop (i + 1)) = v :: u :: p.vols.drop (i + 1) := by simp only [insS, hg, if_true]
      rw [e1, e2]
      repeat (conv => lhs; whnf; arg 2; tactic => first | exact g1 | exact map_get hu | exact hd | exact hg | exact congrArg not hd | exact congrArg not hg | exact g2)
      conv => lhs; whnf
      rw [app_vol]
      repeat (conv => lhs; whnf; arg 2; tactic => first | exact g1 | exact hd2 | exact congrArg not hd2 | exact g2)
      conv => lhs; whnf
      rw [wrap_succ (by omega), app_vol]
      simp only [List.append_assoc, List.cons_append, List.nil_append] at ih ⊢
      exact ih
theorem ev_l11Add (p : PoolM) (hl : p.vols.length < 1000) (v : VolM) (c : Nat) : W f_spec_l11Add [.agg [.hw 0, .hw 1], .agg [.str v.name, .hw 2]] [.row 2 0 2 (p.slots.map slotD), .row 2 0 2 (p.vols.map volD), .row 1 0 c (v.blocks.map intD)] =
    some (.agg [.hw 0, .hw 3], [.row 2 0 2 (p.slots.map slotD), .row 2 0 2 (p.vols.map volD), .frz 1 (v.blocks.map intD), .row 2 0 0 ((insS v p.vols).map volD)]) := by
  have e := add_loop0 h p hl v c p.vols.length 0 [] (by omega) (by simp)
  have hd : decide (((p.vols.map volD).length + 1) * 40 ≤ 140737488355328) = true := decide_eq_true (by rw [List.length_map]; omega)
  rw [nc0, List.drop_zero] at e
  rw [h.call]
  cases hg : anyG v p.vols
  · rw [hg] at e
    repeat (conv => lhs; whnf; arg 2; tactic => first | exact g1 | exact e | exact hd | exact congrArg not e | exact congrArg not hd | exact g2)
    conv => lhs; whnf
    rw [insS_none hg, app_vol]
    rfl
  · rw [hg] at e
    repeat (conv => lhs; whnf; arg 2; tactic => first | exact g1 | exact e | exact congrArg not e | exact g2)
    rfl
end
end Go.Gn

namespace Go.Gn
open Go
set_option linter.unusedVariables false
set_option linter.unusedSimpArgs false
set_option maxRecDepth 100000
set_option maxHeartbeats 4000000
def specP (p : PoolM) : List Obj := [.row 2 0 2 (p.slots.map slotD), .row 2 0 2 (p.vols.map volD)]
def Res (r : PoolM × Bool) (x : AV × List Obj) : Prop :=
  x = (.tup [.agg [.hw 0, .hw 1], .bool r.2], specP r.1) ∨
  (∃ ys c, x = (.tup [.agg [.hw 0, .hw 2], .bool r.2], [.row 2 0 2 (r.1.slots.map slotD), .row 2 0 2 ys, .row 2 0 c (r.1.vols.map volD)])) ∨
  (∃ xs ys, x = (.tup [.agg [.hw 2, .hw 3], .bool r.2], [.row 2 0 2 xs, .row 2 0 2 ys, .row 2 0 2 (r.1.slots.map slotD), .row 2 0 2 (r.1.vols.map volD)]))
def sMakeBad (p : PoolM) (nm : Str) (sz : Int) : Bool := !sName nm || (!inR sz 1 6 || decide (fndI (volIx p.vols nm) ≥ 0))
def sMake (p : PoolM) (nm : Str) (sz : Int) : PoolM × Bool := if sMakeBad p nm sz then (p, false) else (⟨p.slots, insS ⟨nm, List.replicate sz.toNat 0⟩ p.vols⟩, true)
def sWr (p : PoolM) (i b : Nat) (t : Str) : PoolM × Bool := match p.vols[i]? with
  | some v => match v.blocks[b]? with
    | some old => if seq t noText then (⟨freeM p.slots old, p.vols.set i ⟨v.name, v.blocks.set b 0⟩⟩, true)
      else if (putS (freeM p.slots old) t).2.2 then (⟨(putS (freeM p.slots old) t).1, p.vols.set i ⟨v.name, v.blocks.set b (putS (freeM p.slots old) t).2.1⟩⟩, true) else (p, false)
    | none => (p, false)
  | none => (p, false)
def sWrite (p : PoolM) (nm : Str) (b : Int) (t : Str) : PoolM × Bool := match hasB p nm b with
  | none => (p, false)
  | some i => if textOk t then sWr p i b.toNat t else (p, false)
def sCloneBad (p : PoolM) (fr to : Str) : Bool := decide (fndI (volIx p.vols fr) < 0) || (!sName to || decide (fndI (volIx p.vols to) ≥ 0))
def sClone (p : PoolM) (fr to : Str) : PoolM × Bool := if sCloneBad p fr to then (p, false) else match p.vols[(fndI (volIx p.vols fr)).toNat]? with
  | some v => (⟨incL p.slots v.blocks, insS ⟨to, v.blocks⟩ p.vols⟩, true)
  | none => (p, false)
def sGone (p : PoolM) (nm : Str) : PoolM × Bool := match volIx p.vols nm with
  | none => (p, false)
  | some i => (goM p i, true)
section
variable {W : CallF} {L : LoopF} {E : EqF} {T : Prop → Bool} (h : IsK G W L E T)
include h
theorem ev_l11Make (p : PoolM) (hl : p.vols.length < 1000) (nm : Str) (sz : Int) : ∃ x, W f_spec_l11Make [.agg [.hw 0, .hw 1], .str nm, .int .i64 sz] (specP p) = some x ∧ Res (sMake p nm sz) x := by
  have hn := ev_l3Name h nm
  have hr := ev_l6In h sz 1 6
  have hv := ev_l11At h p (by omega) nm
  unfold sMake sMakeBad
  cases c1 : sName nm
  · rw [c1] at hn
    refine ⟨_, ?_, .inl rfl⟩
    rw [h.call]
    repeat (conv => lhs; whnf; arg 2; tactic => first | exact g1 | exact hn | exact congrArg not hn | exact g2)
    rfl
  · rw [c1] at hn
    cases c2 : inR sz 1 6
    · rw [c2] at hr
      refine ⟨_, ?_, .inl rfl⟩
      rw [h.call]
      repeat (conv => lhs; whnf; arg 2; tactic => first | exact g1 | exact hn | exact hr | exact congrArg not hn | exact congrArg not hr | exact g2)
      rfl
    · have c2' := c2
      rw [c2] at hr
      simp only [inR, Bool.and_eq_true, decide_eq_true_eq] at c2'
      cases c3 : decide (fndI (volIx p.vols nm) ≥ 0)
      · obtain ⟨n, rfl⟩ : ∃ n : Nat, sz = n := ⟨sz.toNat, by omega⟩
        have hins := ev_l11Add h p hl ⟨nm, List.replicate n 0⟩ 0
        simp only [List.map_replicate] at hins
        refine ⟨_, ?_, .inr (.inl ⟨p.vols.map volD, 2, rfl⟩)⟩
        rw [h.call]
        repeat (conv => lhs; whnf; arg 2; tactic => first | exact g1 | exact hn | exact hr | exact hv | exact c3 | exact hins | exact congrArg not hn | exact congrArg not hr | exact congrArg not hv | exact congrArg not c3 | exact congrArg not hins | exact g2)
        rfl
      · refine ⟨_, ?_, .inl rfl⟩
        rw [h.call]
        repeat (conv => lhs; whnf; arg 2; tactic => first | exact g1 | exact hn | exact hr | exact hv | exact c3 | exact congrArg not hn | exact congrArg not hr | exact congrArg not hv | exact congrArg not c3 | exact g2)
        rfl
end
end Go.Gn

namespace Go.Gn
open Go
set_option linter.unusedVariables false
set_option linter.unusedSimpArgs false
set_option maxRecDepth 100000
set_option maxHeartbeats 4000000
theorem findS_range (xs : List SlotM) (h8 : xs.length = 8) (t : Str) : ∀ m p fr, inR p 1 8 = true → 0 ≤ fr → fr ≤ 8 → 0 ≤ (findS xs t m p fr).1 ∧ (findS xs t m p fr).1 ≤ 8
  | 0, p, fr, hp, h1, h2 => ⟨h1, h2⟩
  | m + 1, p, fr, hp, h1, h2 => by
    have hp' := hp
    simp only [inR, Bool.and_eq_true, decide_eq_true_eq] at hp'
    have hnx : inR (textNext p) 1 8 = true := by have := textNext_range hp'.1; simp [inR]; omega
    simp only [findS]
    split
    · split
      · simp only; omega
      · refine findS_range xs h8 t m _ _ hnx ?_ ?_
        · split <;> omega
        · split <;> omega
    · simp
section
variable {W : CallF} {L : LoopF} {E : EqF} {T : Prop → Bool} (h : IsK G W L E T)
include h
theorem ev_sfree (xs : List SlotM) (h8 : xs.length = 8) (hu : SlotsB 1000000 xs) (old : Int) (h0 : 0 < old) (h1 : old ≤ 8) : W f_spec_l2Drop [.hw 0, .int .i64 old] [.row 2 0 2 (xs.map slotD)] = some (.hw 0, [.row 2 0 2 ((freeM xs old).map slotD)]) := by
  obtain ⟨j, rfl⟩ : ∃ j : Nat, old = (j : Int) + 1 := ⟨(old - 1).toNat, by omega⟩
  obtain ⟨x, hx⟩ := get_some (xs := xs) (i := j) (by omega)
  have hj : ((j : Int) + 1 - 1).toNat = j := by omega
  simp only [freeM, if_pos h0, hj, hx]
  exact ev_l2Drop h xs j x hx (by omega) (hu x (List.mem_of_getElem? hx))
theorem ev_sput (xs : List SlotM) (h8 : xs.length = 8) (hu : SlotsB 1000000 xs) (t : Str) (ht : textOk t = true) : W f_spec_l2Put [.hw 0, .str t] [.row 2 0 2 (xs.map slotD)] = some (.tup [.hw 0, .int .i64 (putS xs t).2.1, .bool (putS xs t).2.2], [.row 2 0 2 ((putS xs t).1.map slotD)]) :=
  ev_l2Put h xs h8 hu t ht (findS_range xs h8 t 8 _ 0 (by have := textPlace_range ht; simp [inR]; omega) (by omega) (by omega))
theorem ev_l11Write (p : PoolM) (hs : VolsSz p.vols) (hvl : p.vols.length < 1000) (h8 : p.slots.length = 8) (hu : SlotsB 99 p.slots) (hbl : ∀ v ∈ p.vols, v.blocks.length < 1000) (hb8 : ∀ v ∈ p.vols, ∀ b ∈ v.blocks, 0 ≤ b ∧ b ≤ 8) (nm : Str) (b : Int) (t : Str) (ht : SmS t) :
    ∃ x, W f_spec_l11Write [.agg [.hw 0, .hw 1], .str nm, .int .i64 b, .str t] (specP p) = some x ∧ Res (sWrite p nm b t) x := by
  have hv := ev_l11At h p (by omega) nm
  have htx := ev_sTextOk h t ht
  unfold sWrite hasB
  cases hx : volIx p.vols nm with
  | none =>
    rw [hx] at hv
    refine ⟨_, ?_, .inl rfl⟩
    rw [h.call]
    repeat (conv => lhs; whnf; arg 2; tactic => first | exact g1 | exact hv | exact congrArg not hv | exact g2)
    rfl
  | some i =>
    rw [hx] at hv
    obtain ⟨_, hi, v, hvi, _⟩ := fnd_lt hx
    rw [Nat.sub_zero] at hvi
    have hvb := hbl v (List.mem_of_getElem? hvi)
    have hi0 : decide (fndI (some i) < 0) = false := decide_eq_false (by simp [fndI])
    have hlen : IntKind.i64.wrap (((v.blocks.map intD).length : Nat) - 1) = (v.blocks.length : Int) - 1 := by rw [List.length_map, wrap_id (by omega) (by omega)]
    have hw : W f_spec_l6In [.int .i64 b, .int .i64 0, .int .i64 (IntKind.i64.wrap (((v.blocks.map intD).length : Nat) - 1))] [] = some (.bool (inR b 0 ((v.blocks.length : Int) - 1)), []) := by rw [hlen]; exact ev_l6In h _ _ _
    simp only [hvi]
    cases hr : inR b 0 ((v.blocks.length : Int) - 1)
    · rw [hr] at hw
      refine ⟨_, ?_, .inl rfl⟩
      rw [h.call]
      repeat (conv => lhs; whnf; arg 2; tactic => first | exact g1 | exact hv | exact hi0 | exact map_get hvi | exact hw | exact congrArg not hv | exact congrArg not hi0 | exact congrArg not hw | exact g2)
      rfl
    · rw [hr] at hw
      simp only [if_true]
      cases ct : textOk t
      · rw [ct] at htx
        refine ⟨_, ?_, .inl rfl⟩
        rw [h.call]
        repeat (conv => lhs; whnf; arg 2; tactic => first | exact g1 | exact hv | exact hi0 | exact map_get hvi | exact hw | exact htx | exact congrArg not hv | exact congrArg not hi0 | exact congrArg not hw | exact congrArg not htx | exact g2)
        rfl
      · rw [ct] at htx
        simp only [inR, Bool.and_eq_true, decide_eq_true_eq] at hr
        obtain ⟨n, rfl⟩ : ∃ n : Nat, b = n := ⟨b.toNat, by omega⟩
        obtain ⟨old, ho⟩ := get_some (xs := v.blocks) (i := n) (by omega)
        have hil := lt_of_get hvi
        have ho8 := hb8 v (List.mem_of_getElem? hvi) old (List.mem_of_getElem? ho)
        have hcp := ev_l11Copy h p (by omega) (by omega) (fun v hv => by have := hbl v hv; omega)
        rw [if_neg (show ¬ p.vols.length = 0 by omega)] at hcp
        simp only [sWr, hvi, ho, Int.toNat_natCast, if_true]
        have hfB := freeM_B (old := old) hu
        have hf8 : (freeM p.slots old).length = 8 := by rw [freeM_length]; exact h8
        have hp := ev_sput h (freeM p.slots old) hf8 hfB t ct
        by_cases hold : old > 0
        · have hf := ev_sfree h p.slots h8 (fun x hx => by have := hu x hx; omega) old (by omega) ho8.2
          have hdo := decide_eq_true hold
          cases hq : seq t noText
          · simp only [Bool.false_eq_true, if_false]
            cases hok : (putS (freeM p.slots old) t).2.2
            · rw [hok] at hp
              refine ⟨_, ?_, .inl rfl⟩
              rw [h.call]
              repeat (conv => lhs; whnf; arg 2; tactic => first | exact g1 | exact hv | exact hi0 | exact map_get hvi | exact hw | exact htx | exact hcp | exact map_get ho | exact hdo | exact hf | exact hq | exact hp | exact get_set_self (by simp; omega) | exact congrArg not hv | exact congrArg not hi0 | exact congrArg not hw | exact congrArg not htx | exact congrArg not hcp | exact congrArg not hdo | exact congrArg not hf | exact congrArg not hq | exact congrArg not hp | exact g2)
              rfl
            · rw [hok] at hp
              refine ⟨_, ?_, .inr (.inr ⟨p.slots.map slotD, p.vols.map volD, rfl⟩)⟩
              rw [h.call]
              repeat (conv => lhs; whnf; arg 2; tactic => first | exact g1 | exact hv | exact hi0 | exact map_get hvi | exact hw | exact htx | exact hcp | exact map_get ho | exact hdo | exact hf | exact hq | exact hp | exact get_set_self (by simp; omega) | exact congrArg not hv | exact congrArg not hi0 | exact congrArg not hw | exact congrArg not htx | exact congrArg not hcp | exact congrArg not hdo | exact congrArg not hf | exact congrArg not hq | exact congrArg not hp | exact g2)
              conv => lhs; whnf
              simp only [List.set_set, wr_es]
              all_goals rfl
          · simp only [if_true]
            refine ⟨_, ?_, .inr (.inr ⟨p.slots.map slotD, p.vols.map volD, rfl⟩)⟩
            rw [h.call]
            repeat (conv => lhs; whnf; arg 2; tactic => first | exact g1 | exact hv | exact hi0 | exact map_get hvi | exact hw | exact htx | exact hcp | exact map_get ho | exact hdo | exact hf | exact hq | exact get_set_self (by simp; omega) | exact congrArg not hv | exact congrArg not hi0 | exact congrArg not hw | exact congrArg not htx | exact congrArg not hcp | exact congrArg not hdo | exact congrArg not hf | exact congrArg not hq | exact g2)
            conv => lhs; whnf
            simp only [List.set_set, wr_es]
            all_goals rfl
        · have hfr : freeM p.slots old = p.slots := by unfold freeM; rw [if_neg hold]
          have hdo := decide_eq_false hold
          rw [hfr] at hp ⊢
          cases hq : seq t noText
          · simp only [Bool.false_eq_true, if_false]
            cases hok : (putS p.slots t).2.2
            · rw [hok] at hp
              refine ⟨_, ?_, .inl rfl⟩
              rw [h.call]
              repeat (conv => lhs; whnf; arg 2; tactic => first | exact g1 | exact hv | exact hi0 | exact map_get hvi | exact hw | exact htx | exact hcp | exact map_get ho | exact hdo | exact hq | exact hp | exact get_set_self (by simp; omega) | exact congrArg not hv | exact congrArg not hi0 | exact congrArg not hw | exact congrArg not htx | exact congrArg not hcp | exact congrArg not hdo | exact congrArg not hq | exact congrArg not hp | exact g2)
              rfl
            · rw [hok] at hp
              refine ⟨_, ?_, .inr (.inr ⟨p.slots.map slotD, p.vols.map volD, rfl⟩)⟩
              rw [h.call]
              repeat (conv => lhs; whnf; arg 2; tactic => first | exact g1 | exact hv | exact hi0 | exact map_get hvi | exact hw | exact htx | exact hcp | exact map_get ho | exact hdo | exact hq | exact hp | exact get_set_self (by simp; omega) | exact congrArg not hv | exact congrArg not hi0 | exact congrArg not hw | exact congrArg not htx | exact congrArg not hcp | exact congrArg not hdo | exact congrArg not hq | exact congrArg not hp | exact g2)
              conv => lhs; whnf
              simp only [List.set_set, wr_es]
              all_goals rfl
          · simp only [if_true]
            refine ⟨_, ?_, .inr (.inr ⟨p.slots.map slotD, p.vols.map volD, rfl⟩)⟩
            rw [h.call]
            repeat (conv => lhs; whnf; arg 2; tactic => first | exact g1 | exact hv | exact hi0 | exact map_get hvi | exact hw | exact htx | exact hcp | exact map_get ho | exact hdo | exact hq | exact get_set_self (by simp; omega) | exact congrArg not hv | exact congrArg not hi0 | exact congrArg not hw | exact congrArg not htx | exact congrArg not hcp | exact congrArg not hdo | exact congrArg not hq | exact g2)
            conv => lhs; whnf
            simp only [List.set_set, wr_es]
            all_goals rfl
end
end Go.Gn

namespace Go.Gn
open Go
set_option linter.unusedVariables false
set_option linter.unusedSimpArgs false
set_option maxRecDepth 100000
set_option maxHeartbeats 4000000
def sclOs (xs : List SlotM) (vs : List VolM) (to : Str) (bs : List Int) : List Obj := [.row 2 0 2 (xs.map slotD), .row 2 0 2 (vs.map volD), .box [.hw 0, .hw 1], .box [.nils, .nils], .box [.str to, .hw 5], .row 1 0 0 (bs.map intD)]
theorem del_view (vs : List VolM) (i : Nat) (hi : i < vs.length) : view (vs.map volD) 0 (i - 0) ++ view (vs.map volD) (i + 1) ((vs.map volD).length - (i + 1)) = (delV vs i).map volD := by
  simp only [view, delV, List.map_append, List.map_take, List.map_drop, List.drop_zero, Nat.sub_zero, List.length_map]
  congr 1
  rw [List.take_of_length_le (by simp)]
section
variable {W : CallF} {L : LoopF} {E : EqF} {T : Prop → Bool} (h : IsK G W L E T)
include h
theorem sinc_loop (vs : List VolM) (to : Str) (bs : List Int) (hbl : bs.length < 1000) (hb8 : ∀ b ∈ bs, 0 ≤ b ∧ b ≤ 8) : ∀ (m i : Nat) (xs : List SlotM), i + m = bs.length → xs.length = 8 → SlotsB (1000 + i) xs →
    L (norm 2 cf155.live) (exitN 2 cf155.out (evCW W L G cf155 2 c155l0)) ⟨[(3, .ptr 2 0), (6, .ptr 3 0), (9, .ptr 4 0), (10, .int .i64 (i : Nat))], sclOs xs vs to bs⟩ =
    some (.ext 0, ⟨[(3, .ptr 2 0), (6, .ptr 3 0), (7, .top), (9, .ptr 4 0)], sclOs (incL xs (bs.drop i)) vs to bs⟩)
  | 0, i, xs, hm, h8, hu => by
    rw [h.loop, List.drop_eq_nil_of_le (show bs.length ≤ i by omega)]
    repeat (conv => lhs; whnf; arg 2; tactic => first | exact g1 | exact g2)
    rfl
  | m + 1, i, xs, hm, h8, hu => by
    obtain ⟨b, hb⟩ := get_some (xs := bs) (i := i) (by omega)
    have hbb := hb8 b (List.mem_of_getElem? hb)
    have hu' := incM_B (b := b) hu
    have hu2 : SlotsB (1000 + (i + 1 : Nat)) (incM xs b) := fun x hx => by have := hu' x hx; omega
    rw [h.loop, drop_cons hb, incL]
    by_cases hp : b > 0
    · obtain ⟨j, rfl⟩ : ∃ j : Nat, b = (j : Int) + 1 := ⟨(b - 1).toNat, by omega⟩
      obtain ⟨x, hx⟩ := get_some (xs := xs) (i := j) (by omega)
      have hux := hu x (List.mem_of_getElem? hx)
      have hj : ((j : Int) + 1 - 1).toNat = j := by omega
      have hinc : incM xs ((j : Int) + 1) = xs.set j x.inc := by simp only [incM, if_pos hp, hj, hx]
      rw [hinc] at hu2 ⊢
      have ih := sinc_loop vs to bs hbl hb8 m (i + 1) (xs.set j x.inc) (by omega) (by simp [h8]) hu2
      repeat (conv => lhs; whnf; arg 2; tactic => first | exact g1 | exact map_get hb | exact decide_eq_true hp | exact map_get hx | exact g2)
      conv => lhs; whnf
      rw [wrap_succ (by omega), wrap_id (n := x.uses + 1) (by omega) (by omega)]
      have es : (xs.map slotD).set j (splice (slotD x) (0 + 1) [D.int .i64 (x.uses + 1)]) = (xs.set j x.inc).map slotD := by rw [← set_map]; rfl
      rw [es]
      exact ih
    · have hinc : incM xs b = xs := by simp only [incM, if_neg hp]
      rw [hinc] at hu2 ⊢
      have ih := sinc_loop vs to bs hbl hb8 m (i + 1) xs (by omega) h8 hu2
      repeat (conv => lhs; whnf; arg 2; tactic => first | exact g1 | exact map_get hb | exact decide_eq_false hp | exact g2)
      conv => lhs; whnf
      rw [wrap_succ (by omega)]
      exact ih
theorem ev_l11Clone (p : PoolM) (hvl : p.vols.length < 1000) (h8 : p.slots.length = 8) (hu : SlotsB 99 p.slots) (hbl : ∀ v ∈ p.vols, v.blocks.length < 1000) (hb8 : ∀ v ∈ p.vols, ∀ b ∈ v.blocks, 0 ≤ b ∧ b ≤ 8) (fr to : Str) :
    ∃ x, W f_spec_l11Clone [.agg [.hw 0, .hw 1], .str fr, .str to] (specP p) = some x ∧ Res (sClone p fr to) x := by
  have hv := ev_l11At h p (by omega) fr
  have hv2 := ev_l11At h p (by omega) to
  have hn := ev_l3Name h to
  unfold sClone sCloneBad
  cases hx : volIx p.vols fr with
  | none =>
    rw [hx] at hv
    refine ⟨_, ?_, .inl rfl⟩
    rw [h.call]
    repeat (conv => lhs; whnf; arg 2; tactic => first | exact g1 | exact hv | exact congrArg not hv | exact g2)
    rfl
  | some i =>
    rw [hx] at hv
    have hi0 : decide (fndI (some i) < 0) = false := decide_eq_false (by simp [fndI])
    obtain ⟨_, hi, v, hvi, _⟩ := fnd_lt hx
    rw [Nat.sub_zero] at hvi
    have hvb := hbl v (List.mem_of_getElem? hvi)
    have hk : (fndI (some i)).toNat = i := by simp [fndI]
    rw [hi0, hk]
    cases c1 : sName to
    · rw [c1] at hn
      refine ⟨_, ?_, .inl rfl⟩
      rw [h.call]
      repeat (conv => lhs; whnf; arg 2; tactic => first | exact g1 | exact hv | exact hi0 | exact hn | exact congrArg not hv | exact congrArg not hi0 | exact congrArg not hn | exact g2)
      rfl
    · rw [c1] at hn
      cases c2 : decide (fndI (volIx p.vols to) ≥ 0)
      · simp only [hvi]
        have e := sinc_loop h p.vols to v.blocks hvb (hb8 v (List.mem_of_getElem? hvi)) v.blocks.length 0 p.slots (by omega) h8 (fun x hx => by have := hu x hx; omega)
        rw [nc0, List.drop_zero] at e
        have hins := ev_l11Add h ⟨incL p.slots v.blocks, p.vols⟩ hvl ⟨to, v.blocks⟩ 0
        have hd : decide ((0 + (v.blocks.map intD).length) * 8 ≤ 140737488355328) = true := decide_eq_true (by rw [List.length_map]; omega)
        refine ⟨_, ?_, .inr (.inl ⟨p.vols.map volD, 2, rfl⟩)⟩
        rw [h.call]
        repeat (conv => lhs; whnf; arg 2; tactic => first | exact g1 | exact hv | exact hi0 | exact hn | exact hv2 | exact c2 | exact map_get hvi | exact szOk_map intD 1 (fun _ => rfl) v.blocks | exact hd | exact e | exact hins | exact congrArg not hv | exact congrArg not hi0 | exact congrArg not hn | exact congrArg not hv2 | exact congrArg not c2 | exact congrArg not hd | exact congrArg not e | exact congrArg not hins | exact g2)
        rfl
      · refine ⟨_, ?_, .inl rfl⟩
        rw [h.call]
        repeat (conv => lhs; whnf; arg 2; tactic => first | exact g1 | exact hv | exact hi0 | exact hn | exact hv2 | exact c2 | exact congrArg not hv | exact congrArg not hi0 | exact congrArg not hn | exact congrArg not hv2 | exact congrArg not c2 | exact g2)
        rfl
def sgoOs (xs : List SlotM) (vs : List VolM) : List Obj := [.row 2 0 2 (xs.map slotD), .row 2 0 2 (vs.map volD), .box [.hw 0, .hw 1], .box [.nils, .nils]]
theorem sgone_loop (vs : List VolM) (k : Nat) (v : VolM) (hv : vs[k]? = some v) (hk : vs.length < 1000) (hbl : v.blocks.length < 1000) (hb8 : ∀ b ∈ v.blocks, 0 ≤ b ∧ b ≤ 8) : ∀ (m i : Nat) (xs : List SlotM), i + m = v.blocks.length → xs.length = 8 → SlotsB (1000 + i) xs →
    L (norm 2 cf156.live) (exitN 2 cf156.out (evCW W L G cf156 2 c156l0)) ⟨[(2, .ptr 2 0), (4, .ptr 3 0), (6, .int .i64 (k : Nat)), (7, .int .i64 (i : Nat))], sgoOs xs vs⟩ =
    some (.ext 0, ⟨[(2, .ptr 2 0), (4, .ptr 3 0), (5, .top), (6, .int .i64 (k : Nat))], sgoOs (freeL xs (v.blocks.drop i)) vs⟩)
  | 0, i, xs, hm, h8, hu => by
    have hkl := lt_of_get hv
    rw [h.loop, List.drop_eq_nil_of_le (show v.blocks.length ≤ i by omega)]
    repeat (conv => lhs; whnf; arg 2; tactic => first | exact g1 | exact map_get hv | exact g2)
    rfl
  | m + 1, i, xs, hm, h8, hu => by
    have hkl := lt_of_get hv
    obtain ⟨b, hb⟩ := get_some (xs := v.blocks) (i := i) (by omega)
    have hbb := hb8 b (List.mem_of_getElem? hb)
    have hu' := freeM_B' (b := b) hu (by omega)
    have hu2 : SlotsB (1000 + (i + 1 : Nat)) (freeM xs b) := fun x hx => by have := hu' x hx; omega
    rw [h.loop, drop_cons hb, freeL]
    by_cases hp : b > 0
    · have hf := ev_sfree h xs h8 (fun x hx => by have := hu x hx; omega) b hp hbb.2
      have ih := sgone_loop vs k v hv hk hbl hb8 m (i + 1) (freeM xs b) (by omega) (by rw [freeM_length]; exact h8) hu2
      have hdo := decide_eq_true hp
      repeat (conv => lhs; whnf; arg 2; tactic => first | exact g1 | exact map_get hv | exact map_get hb | exact hdo | exact hf | exact congrArg not hdo | exact congrArg not hf | exact g2)
      conv => lhs; whnf
      rw [wrap_succ (by omega)]
      exact ih
    · have hinc : freeM xs b = xs := by simp only [freeM, if_neg hp]
      rw [hinc] at hu2 ⊢
      have ih := sgone_loop vs k v hv hk hbl hb8 m (i + 1) xs (by omega) h8 hu2
      have hdo := decide_eq_false hp
      repeat (conv => lhs; whnf; arg 2; tactic => first | exact g1 | exact map_get hv | exact map_get hb | exact hdo | exact congrArg not hdo | exact g2)
      conv => lhs; whnf
      rw [wrap_succ (by omega)]
      exact ih
theorem ev_l11Gone (p : PoolM) (hvl : p.vols.length < 1000) (h8 : p.slots.length = 8) (hu : SlotsB 99 p.slots) (hbl : ∀ v ∈ p.vols, v.blocks.length < 1000) (hb8 : ∀ v ∈ p.vols, ∀ b ∈ v.blocks, 0 ≤ b ∧ b ≤ 8) (nm : Str) :
    ∃ x, W f_spec_l11Gone [.agg [.hw 0, .hw 1], .str nm] (specP p) = some x ∧ Res (sGone p nm) x := by
  have hv := ev_l11At h p (by omega) nm
  unfold sGone
  cases hx : volIx p.vols nm with
  | none =>
    rw [hx] at hv
    refine ⟨_, ?_, .inl rfl⟩
    rw [h.call]
    repeat (conv => lhs; whnf; arg 2; tactic => first | exact g1 | exact hv | exact congrArg not hv | exact g2)
    rfl
  | some i =>
    rw [hx] at hv
    have hi0 : decide (fndI (some i) < 0) = false := decide_eq_false (by simp [fndI])
    obtain ⟨_, hi, v, hvi, _⟩ := fnd_lt hx
    rw [Nat.sub_zero] at hvi
    have e := sgone_loop h p.vols i v hvi hvl (hbl v (List.mem_of_getElem? hvi)) (hb8 v (List.mem_of_getElem? hvi)) v.blocks.length 0 p.slots (by omega) h8 (fun x hx => by have := hu x hx; omega)
    rw [nc0, List.drop_zero] at e
    have hlen : ((p.vols.map volD).length) = p.vols.length := List.length_map ..
    have v1 : (view (p.vols.map volD) 0 (i - 0)).length = i := by simp [view]; omega
    have hd : decide ((0 + (view (p.vols.map volD) 0 (i - 0)).length) * 40 ≤ 140737488355328) = true := decide_eq_true (by rw [v1]; omega)
    have v2 : (view (p.vols.map volD) (i + 1) ((p.vols.map volD).length - (i + 1))).length ≤ p.vols.length := by simp [view]
    have hd2 : decide (((chunks 2 0 ([] : List D) ++ view (p.vols.map volD) 0 (i - 0)).length + (view (p.vols.map volD) (i + 1) ((p.vols.map volD).length - (i + 1))).length) * 40 ≤ 140737488355328) = true := decide_eq_true (by rw [List.length_append, v1]; simp only [chunks, List.length_nil]; omega)
    simp only [goM, hvi]
    refine ⟨_, ?_, .inr (.inl ⟨p.vols.map volD, 0, rfl⟩)⟩
    rw [h.call]
    repeat (conv => lhs; whnf; arg 2; tactic => first | exact g1 | exact hv | exact hi0 | exact e | exact hd | exact hd2 | exact congrArg not hv | exact congrArg not hi0 | exact congrArg not e | exact congrArg not hd | exact congrArg not hd2 | exact g2)
    conv => lhs; whnf
    rw [show chunks 2 0 ([] : List D) ++ view (p.vols.map volD) 0 (i - 0) ++ view (p.vols.map volD) (i + 1) ((p.vols.map volD).length - (i + 1)) = (delV p.vols i).map volD from del_view p.vols i (by omega)]
    all_goals rfl
end
end Go.Gn

namespace Go.Gn
open Go
set_option linter.unusedVariables false
set_option linter.unusedSimpArgs false
set_option maxRecDepth 100000
set_option maxHeartbeats 8000000
def sDo (p : PoolM) (o : OpM) : PoolM × Bool := if o.kind = 1 then sMake p o.name o.n else if o.kind = 2 then sWrite p o.name o.n o.text else if o.kind = 3 then sClone p o.name o.to else sGone p o.name
def Res2 (r : PoolM × Bool) (x : AV × List Obj) : Prop :=
  x = (.tup [.agg [.hw 0, .hw 1], .bool r.2], specP r.1) ∨
  (∃ ys, x = (.tup [.agg [.hw 0, .hw 2], .bool r.2], [.row 2 0 2 (r.1.slots.map slotD), .row 2 0 2 ys, .row 2 0 2 (r.1.vols.map volD)])) ∨
  (∃ xs ys, x = (.tup [.agg [.hw 2, .hw 3], .bool r.2], [.row 2 0 2 xs, .row 2 0 2 ys, .row 2 0 2 (r.1.slots.map slotD), .row 2 0 2 (r.1.vols.map volD)]))
section
variable {W : CallF} {L : LoopF} {E : EqF} {T : Prop → Bool} (h : IsK G W L E T)
include h
theorem ev_l12Do (p : PoolM) (hg : PoolG p) (o : OpM) (ho : o.Sz) : ∃ x, W f_spec_l12Do [.agg [.hw 0, .hw 1], .agg (opC o)] (specP p) = some x ∧ Res2 (sDo p o) x := by
  have hvl : p.vols.length < 1000 := by have := hg.hl; omega
  have hbl : ∀ v ∈ p.vols, v.blocks.length < 1000 := fun v hv => by have := hg.hb v hv; omega
  have n1 : ∀ {a b : Int}, ¬ a = b → (a == b) = false := fun hab => by simp [hab]
  unfold sDo
  by_cases k1 : o.kind = 1
  · have e1 : (o.kind == 1) = true := by simp [k1]
    simp only [if_pos k1]
    obtain ⟨x, hx, hr⟩ := ev_l11Make h p hvl o.name o.n
    generalize sMake p o.name o.n = r at hr
    rcases hr with rfl | ⟨ys, c, rfl⟩ | ⟨xs, ys, rfl⟩
    · refine ⟨_, ?_, .inl rfl⟩
      rw [h.call]
      repeat (conv => lhs; whnf; arg 2; tactic => first | exact g1 | exact e1 | exact hx | exact congrArg not e1 | exact congrArg not hx | exact g2)
      rfl
    · refine ⟨_, ?_, .inr (.inl ⟨ys, rfl⟩)⟩
      rw [h.call]
      repeat (conv => lhs; whnf; arg 2; tactic => first | exact g1 | exact e1 | exact hx | exact congrArg not e1 | exact congrArg not hx | exact g2)
      rfl
    · refine ⟨_, ?_, .inr (.inr ⟨xs, ys, rfl⟩)⟩
      rw [h.call]
      repeat (conv => lhs; whnf; arg 2; tactic => first | exact g1 | exact e1 | exact hx | exact congrArg not e1 | exact congrArg not hx | exact g2)
      rfl
  · have e1 := n1 k1
    by_cases k2 : o.kind = 2
    · have e2 : (o.kind == 2) = true := by simp [k2]
      simp only [if_neg k1, if_pos k2]
      obtain ⟨x, hx, hr⟩ := ev_l11Write h p ⟨by omega, fun v hv => by have := hbl v hv; omega⟩ hvl hg.h8 hg.hu hbl hg.hb8 o.name o.n o.text ho.2.2
      generalize sWrite p o.name o.n o.text = r at hr
      rcases hr with rfl | ⟨ys, c, rfl⟩ | ⟨xs, ys, rfl⟩
      · refine ⟨_, ?_, .inl rfl⟩
        rw [h.call]
        repeat (conv => lhs; whnf; arg 2; tactic => first | exact g1 | exact e1 | exact e2 | exact hx | exact congrArg not e1 | exact congrArg not e2 | exact congrArg not hx | exact g2)
        rfl
      · refine ⟨_, ?_, .inr (.inl ⟨ys, rfl⟩)⟩
        rw [h.call]
        repeat (conv => lhs; whnf; arg 2; tactic => first | exact g1 | exact e1 | exact e2 | exact hx | exact congrArg not e1 | exact congrArg not e2 | exact congrArg not hx | exact g2)
        rfl
      · refine ⟨_, ?_, .inr (.inr ⟨xs, ys, rfl⟩)⟩
        rw [h.call]
        repeat (conv => lhs; whnf; arg 2; tactic => first | exact g1 | exact e1 | exact e2 | exact hx | exact congrArg not e1 | exact congrArg not e2 | exact congrArg not hx | exact g2)
        rfl
    · have e2 := n1 k2
      by_cases k3 : o.kind = 3
      · have e3 : (o.kind == 3) = true := by simp [k3]
        simp only [if_neg k1, if_neg k2, if_pos k3]
        obtain ⟨x, hx, hr⟩ := ev_l11Clone h p hvl hg.h8 hg.hu hbl hg.hb8 o.name o.to
        generalize sClone p o.name o.to = r at hr
        rcases hr with rfl | ⟨ys, c, rfl⟩ | ⟨xs, ys, rfl⟩
        · refine ⟨_, ?_, .inl rfl⟩
          rw [h.call]
          repeat (conv => lhs; whnf; arg 2; tactic => first | exact g1 | exact e1 | exact e2 | exact e3 | exact hx | exact congrArg not e1 | exact congrArg not e2 | exact congrArg not e3 | exact congrArg not hx | exact g2)
          rfl
        · refine ⟨_, ?_, .inr (.inl ⟨ys, rfl⟩)⟩
          rw [h.call]
          repeat (conv => lhs; whnf; arg 2; tactic => first | exact g1 | exact e1 | exact e2 | exact e3 | exact hx | exact congrArg not e1 | exact congrArg not e2 | exact congrArg not e3 | exact congrArg not hx | exact g2)
          rfl
        · refine ⟨_, ?_, .inr (.inr ⟨xs, ys, rfl⟩)⟩
          rw [h.call]
          repeat (conv => lhs; whnf; arg 2; tactic => first | exact g1 | exact e1 | exact e2 | exact e3 | exact hx | exact congrArg not e1 | exact congrArg not e2 | exact congrArg not e3 | exact congrArg not hx | exact g2)
          rfl
      · have e3 := n1 k3
        simp only [if_neg k1, if_neg k2, if_neg k3]
        obtain ⟨x, hx, hr⟩ := ev_l11Gone h p hvl hg.h8 hg.hu hbl hg.hb8 o.name
        generalize sGone p o.name = r at hr
        rcases hr with rfl | ⟨ys, c, rfl⟩ | ⟨xs, ys, rfl⟩
        · refine ⟨_, ?_, .inl rfl⟩
          rw [h.call]
          repeat (conv => lhs; whnf; arg 2; tactic => first | exact g1 | exact e1 | exact e2 | exact e3 | exact hx | exact congrArg not e1 | exact congrArg not e2 | exact congrArg not e3 | exact congrArg not hx | exact g2)
          rfl
        · refine ⟨_, ?_, .inr (.inl ⟨ys, rfl⟩)⟩
          rw [h.call]
          repeat (conv => lhs; whnf; arg 2; tactic => first | exact g1 | exact e1 | exact e2 | exact e3 | exact hx | exact congrArg not e1 | exact congrArg not e2 | exact congrArg not e3 | exact congrArg not hx | exact g2)
          rfl
        · refine ⟨_, ?_, .inr (.inr ⟨xs, ys, rfl⟩)⟩
          rw [h.call]
          repeat (conv => lhs; whnf; arg 2; tactic => first | exact g1 | exact e1 | exact e2 | exact e3 | exact hx | exact congrArg not e1 | exact congrArg not e2 | exact congrArg not e3 | exact congrArg not hx | exact g2)
          rfl
end
end Go.Gn

namespace Go.Gn
open Go
set_option linter.unusedVariables false
set_option linter.unusedSimpArgs false
set_option maxRecDepth 100000
set_option maxHeartbeats 8000000
def runM : PoolM → List OpM → Option PoolM
  | p, [] => some p
  | p, o :: os => if sOpOk o && (sDo p o).2 then runM (sDo p o).1 os else none
def Sh (res : Bool) (a b : List (List D)) (q : Nat) (os : List Obj) : Prop :=
  (q = 3 ∧ os = [.row 2 0 2 a, .row 2 0 2 b, .box [.hw 0, .hw 1], .box (if res then [.hw 0, .hw 1] else [.nils, .nils])]) ∨
  (∃ y, q = 4 ∧ os = [.row 2 0 2 a, .row 2 0 2 y, .box [.hw 0, .hw 3], .row 2 0 2 b, .box (if res then [.hw 0, .hw 3] else [.nils, .nils])]) ∨
  (∃ x y, q = 5 ∧ os = [.row 2 0 2 x, .row 2 0 2 y, .box [.hw 3, .hw 4], .row 2 0 2 a, .row 2 0 2 b, .box (if res then [.hw 3, .hw 4] else [.nils, .nils])])
def Res3 (ok : Bool) (a b : List (List D)) (x : AV × List Obj) : Prop :=
  x = (.tup [.agg [.hw 0, .hw 1], .bool ok], [.row 2 0 2 a, .row 2 0 2 b]) ∨
  (∃ ys, x = (.tup [.agg [.hw 0, .hw 2], .bool ok], [.row 2 0 2 a, .row 2 0 2 ys, .row 2 0 2 b])) ∨
  (∃ xs ys, x = (.tup [.agg [.hw 2, .hw 3], .bool ok], [.row 2 0 2 xs, .row 2 0 2 ys, .row 2 0 2 a, .row 2 0 2 b]))
def Keeps : Prop := ∀ (p : PoolM) (o : OpM), poolOk p = true → sOpOk o = true → (sDo p o).2 = true → poolOk (sDo p o).1 = true
section
variable {W : CallF} {L : LoopF} {E : EqF} {T : Prop → Bool} (h : IsK G W L E T)
include h
theorem run_step1 (ops : List OpM) (hl : ops.length < 2000000) (i : Nat) (o : OpM) (ho : ops[i]? = some o) (hos : o.Sz) (p : PoolM) (hg : PoolG p) :
    if sOpOk o && (sDo p o).2 then ∃ q' os', Sh false ((sDo p o).1.slots.map slotD) ((sDo p o).1.vols.map volD) q' os' ∧ L (norm 2 cf73.live) (exitN 2 cf73.out (evCW W L G cf73 2 c73l0)) ⟨[(1, .sl .br (ops.map opD)), (2, .ptr 2 0), (4, .ptr 3 0), (6, .int .i64 (i : Nat))], [.row 2 0 2 (p.slots.map slotD), .row 2 0 2 (p.vols.map volD), .box [.hw 0, .hw 1], .box [.nils, .nils]]⟩ = L (norm 2 cf73.live) (exitN 2 cf73.out (evCW W L G cf73 2 c73l0)) ⟨[(1, .sl .br (ops.map opD)), (2, .ptr 2 0), (4, .ptr q' 0), (6, .int .i64 ((i + 1 : Nat) : Nat))], os'⟩
    else ∃ a b q' os', Sh true a b q' os' ∧ L (norm 2 cf73.live) (exitN 2 cf73.out (evCW W L G cf73 2 c73l0)) ⟨[(1, .sl .br (ops.map opD)), (2, .ptr 2 0), (4, .ptr 3 0), (6, .int .i64 (i : Nat))], [.row 2 0 2 (p.slots.map slotD), .row 2 0 2 (p.vols.map volD), .box [.hw 0, .hw 1], .box [.nils, .nils]]⟩ = some (.ret, ⟨[(2, .ptr 2 0), (4, .ptr q' 0), (5, .bool false)], os'⟩) := by
  obtain ⟨z, hz, hr⟩ := ev_l12Do h p hg o hos
  have hok := ev_sOpOk h o hos
  have hil := lt_of_get ho
  generalize sDo p o = r at hr
  obtain ⟨p', ok⟩ := r
  cases c1 : sOpOk o
  all_goals rw [c1] at hok
  · simp only [Bool.false_and, Bool.false_eq_true, if_false]
    rcases hr with rfl | ⟨ys, rfl⟩ | ⟨xs, ys, rfl⟩
    · refine ⟨p'.slots.map slotD, p'.vols.map volD, _, _, .inl ⟨rfl, rfl⟩, ?_⟩
      rw [h.loop]
      repeat (conv => lhs; whnf; arg 2; tactic => first | exact g1 | exact map_get ho | exact hz | exact hok | exact congrArg not hz | exact congrArg not hok | exact g2)
      rfl
    · refine ⟨p'.slots.map slotD, ys, _, _, .inl ⟨rfl, rfl⟩, ?_⟩
      rw [h.loop]
      repeat (conv => lhs; whnf; arg 2; tactic => first | exact g1 | exact map_get ho | exact hz | exact hok | exact congrArg not hz | exact congrArg not hok | exact g2)
      rfl
    · refine ⟨xs, ys, _, _, .inl ⟨rfl, rfl⟩, ?_⟩
      rw [h.loop]
      repeat (conv => lhs; whnf; arg 2; tactic => first | exact g1 | exact map_get ho | exact hz | exact hok | exact congrArg not hz | exact congrArg not hok | exact g2)
      rfl
  · cases ok
    · simp only [Bool.and_false, Bool.false_eq_true, if_false]
      rcases hr with rfl | ⟨ys, rfl⟩ | ⟨xs, ys, rfl⟩
      · refine ⟨p'.slots.map slotD, p'.vols.map volD, _, _, .inl ⟨rfl, rfl⟩, ?_⟩
        rw [h.loop]
        repeat (conv => lhs; whnf; arg 2; tactic => first | exact g1 | exact map_get ho | exact hz | exact hok | exact congrArg not hz | exact congrArg not hok | exact g2)
        rfl
      · refine ⟨p'.slots.map slotD, ys, _, _, .inl ⟨rfl, rfl⟩, ?_⟩
        rw [h.loop]
        repeat (conv => lhs; whnf; arg 2; tactic => first | exact g1 | exact map_get ho | exact hz | exact hok | exact congrArg not hz | exact congrArg not hok | exact g2)
        rfl
      · refine ⟨xs, ys, _, _, .inl ⟨rfl, rfl⟩, ?_⟩
        rw [h.loop]
        repeat (conv => lhs; whnf; arg 2; tactic => first | exact g1 | exact map_get ho | exact hz | exact hok | exact congrArg not hz | exact congrArg not hok | exact g2)
        rfl
    · simp only [Bool.and_true, if_true]
      rcases hr with rfl | ⟨ys, rfl⟩ | ⟨xs, ys, rfl⟩
      · refine ⟨_, _, .inl ⟨rfl, rfl⟩, ?_⟩
        rw [h.loop]
        repeat (conv => lhs; whnf; arg 2; tactic => first | exact g1 | exact map_get ho | exact hz | exact hok | exact congrArg not hz | exact congrArg not hok | exact g2)
        conv => lhs; whnf
        rw [wrap_succ (by omega)]
        rfl
      · refine ⟨_, _, .inr (.inl ⟨ys, rfl, rfl⟩), ?_⟩
        rw [h.loop]
        repeat (conv => lhs; whnf; arg 2; tactic => first | exact g1 | exact map_get ho | exact hz | exact hok | exact congrArg not hz | exact congrArg not hok | exact g2)
        conv => lhs; whnf
        rw [wrap_succ (by omega)]
        rfl
      · refine ⟨_, _, .inr (.inr ⟨xs, ys, rfl, rfl⟩), ?_⟩
        rw [h.loop]
        repeat (conv => lhs; whnf; arg 2; tactic => first | exact g1 | exact map_get ho | exact hz | exact hok | exact congrArg not hz | exact congrArg not hok | exact g2)
        conv => lhs; whnf
        rw [wrap_succ (by omega)]
        rfl
theorem run_step2 (ops : List OpM) (hl : ops.length < 2000000) (i : Nat) (o : OpM) (ho : ops[i]? = some o) (hos : o.Sz) (p : PoolM) (hg : PoolG p) (y : List (List D)) :
    if sOpOk o && (sDo p o).2 then ∃ q' os', Sh false ((sDo p o).1.slots.map slotD) ((sDo p o).1.vols.map volD) q' os' ∧ L (norm 2 cf73.live) (exitN 2 cf73.out (evCW W L G cf73 2 c73l0)) ⟨[(1, .sl .br (ops.map opD)), (2, .ptr 2 0), (4, .ptr 4 0), (6, .int .i64 (i : Nat))], [.row 2 0 2 (p.slots.map slotD), .row 2 0 2 y, .box [.hw 0, .hw 3], .row 2 0 2 (p.vols.map volD), .box [.nils, .nils]]⟩ = L (norm 2 cf73.live) (exitN 2 cf73.out (evCW W L G cf73 2 c73l0)) ⟨[(1, .sl .br (ops.map opD)), (2, .ptr 2 0), (4, .ptr q' 0), (6, .int .i64 ((i + 1 : Nat) : Nat))], os'⟩
    else ∃ a b q' os', Sh true a b q' os' ∧ L (norm 2 cf73.live) (exitN 2 cf73.out (evCW W L G cf73 2 c73l0)) ⟨[(1, .sl .br (ops.map opD)), (2, .ptr 2 0), (4, .ptr 4 0), (6, .int .i64 (i : Nat))], [.row 2 0 2 (p.slots.map slotD), .row 2 0 2 y, .box [.hw 0, .hw 3], .row 2 0 2 (p.vols.map volD), .box [.nils, .nils]]⟩ = some (.ret, ⟨[(2, .ptr 2 0), (4, .ptr q' 0), (5, .bool false)], os'⟩) := by
  obtain ⟨z, hz, hr⟩ := ev_l12Do h p hg o hos
  have hok := ev_sOpOk h o hos
  have hil := lt_of_get ho
  generalize sDo p o = r at hr
  obtain ⟨p', ok⟩ := r
  cases c1 : sOpOk o
  all_goals rw [c1] at hok
  · simp only [Bool.false_and, Bool.false_eq_true, if_false]
    rcases hr with rfl | ⟨ys, rfl⟩ | ⟨xs, ys, rfl⟩
    · refine ⟨p'.slots.map slotD, p'.vols.map volD, _, _, .inr (.inl ⟨y, rfl, rfl⟩), ?_⟩
      rw [h.loop]
      repeat (conv => lhs; whnf; arg 2; tactic => first | exact g1 | exact map_get ho | exact hz | exact hok | exact congrArg not hz | exact congrArg not hok | exact g2)
      rfl
    · refine ⟨p'.slots.map slotD, ys, _, _, .inr (.inl ⟨y, rfl, rfl⟩), ?_⟩
      rw [h.loop]
      repeat (conv => lhs; whnf; arg 2; tactic => first | exact g1 | exact map_get ho | exact hz | exact hok | exact congrArg not hz | exact congrArg not hok | exact g2)
      rfl
    · refine ⟨xs, ys, _, _, .inr (.inl ⟨y, rfl, rfl⟩), ?_⟩
      rw [h.loop]
      repeat (conv => lhs; whnf; arg 2; tactic => first | exact g1 | exact map_get ho | exact hz | exact hok | exact congrArg not hz | exact congrArg not hok | exact g2)
      rfl
  · cases ok
    · simp only [Bool.and_false, Bool.false_eq_true, if_false]
      rcases hr with rfl | ⟨ys, rfl⟩ | ⟨xs, ys, rfl⟩
      · refine ⟨p'.slots.map slotD, p'.vols.map volD, _, _, .inr (.inl ⟨y, rfl, rfl⟩), ?_⟩
        rw [h.loop]
        repeat (conv => lhs; whnf; arg 2; tactic => first | exact g1 | exact map_get ho | exact hz | exact hok | exact congrArg not hz | exact congrArg not hok | exact g2)
        rfl
      · refine ⟨p'.slots.map slotD, ys, _, _, .inr (.inl ⟨y, rfl, rfl⟩), ?_⟩
        rw [h.loop]
        repeat (conv => lhs; whnf; arg 2; tactic => first | exact g1 | exact map_get ho | exact hz | exact hok | exact congrArg not hz | exact congrArg not hok | exact g2)
        rfl
      · refine ⟨xs, ys, _, _, .inr (.inl ⟨y, rfl, rfl⟩), ?_⟩
        rw [h.loop]
        repeat (conv => lhs; whnf; arg 2; tactic => first | exact g1 | exact map_get ho | exact hz | exact hok | exact congrArg not hz | exact congrArg not hok | exact g2)
        rfl
    · simp only [Bool.and_true, if_true]
      rcases hr with rfl | ⟨ys, rfl⟩ | ⟨xs, ys, rfl⟩
      · refine ⟨_, _, .inr (.inl ⟨y, rfl, rfl⟩), ?_⟩
        rw [h.loop]
        repeat (conv => lhs; whnf; arg 2; tactic => first | exact g1 | exact map_get ho | exact hz | exact hok | exact congrArg not hz | exact congrArg not hok | exact g2)
        conv => lhs; whnf
        rw [wrap_succ (by omega)]
        rfl
      · refine ⟨_, _, .inr (.inl ⟨y, rfl, rfl⟩), ?_⟩
        rw [h.loop]
        repeat (conv => lhs; whnf; arg 2; tactic => first | exact g1 | exact map_get ho | exact hz | exact hok | exact congrArg not hz | exact congrArg not hok | exact g2)
        conv => lhs; whnf
        rw [wrap_succ (by omega)]
        rfl
      · refine ⟨_, _, .inr (.inr ⟨xs, y, rfl, rfl⟩), ?_⟩
        rw [h.loop]
        repeat (conv => lhs; whnf; arg 2; tactic => first | exact g1 | exact map_get ho | exact hz | exact hok | exact congrArg not hz | exact congrArg not hok | exact g2)
        conv => lhs; whnf
        rw [wrap_succ (by omega)]
        rfl
theorem run_step3 (ops : List OpM) (hl : ops.length < 2000000) (i : Nat) (o : OpM) (ho : ops[i]? = some o) (hos : o.Sz) (p : PoolM) (hg : PoolG p) (x y : List (List D)) :
    if sOpOk o && (sDo p o).2 then ∃ q' os', Sh false ((sDo p o).1.slots.map slotD) ((sDo p o).1.vols.map volD) q' os' ∧ L (norm 2 cf73.live) (exitN 2 cf73.out (evCW W L G cf73 2 c73l0)) ⟨[(1, .sl .br (ops.map opD)), (2, .ptr 2 0), (4, .ptr 5 0), (6, .int .i64 (i : Nat))], [.row 2 0 2 x, .row 2 0 2 y, .box [.hw 3, .hw 4], .row 2 0 2 (p.slots.map slotD), .row 2 0 2 (p.vols.map volD), .box [.nils, .nils]]⟩ = L (norm 2 cf73.live) (exitN 2 cf73.out (evCW W L G cf73 2 c73l0)) ⟨[(1, .sl .br (ops.map opD)), (2, .ptr 2 0), (4, .ptr q' 0), (6, .int .i64 ((i + 1 : Nat) : Nat))], os'⟩
    else ∃ a b q' os', Sh true a b q' os' ∧ L (norm 2 cf73.live) (exitN 2 cf73.out (evCW W L G cf73 2 c73l0)) ⟨[(1, .sl .br (ops.map opD)), (2, .ptr 2 0), (4, .ptr 5 0), (6, .int .i64 (i : Nat))], [.row 2 0 2 x, .row 2 0 2 y, .box [.hw 3, .hw 4], .row 2 0 2 (p.slots.map slotD), .row 2 0 2 (p.vols.map volD), .box [.nils, .nils]]⟩ = some (.ret, ⟨[(2, .ptr 2 0), (4, .ptr q' 0), (5, .bool false)], os'⟩) := by
  obtain ⟨z, hz, hr⟩ := ev_l12Do h p hg o hos
  have hok := ev_sOpOk h o hos
  have hil := lt_of_get ho
  generalize sDo p o = r at hr
  obtain ⟨p', ok⟩ := r
  cases c1 : sOpOk o
  all_goals rw [c1] at hok
  · simp only [Bool.false_and, Bool.false_eq_true, if_false]
    rcases hr with rfl | ⟨ys, rfl⟩ | ⟨xs, ys, rfl⟩
    · refine ⟨p'.slots.map slotD, p'.vols.map volD, _, _, .inr (.inr ⟨x, y, rfl, rfl⟩), ?_⟩
      rw [h.loop]
      repeat (conv => lhs; whnf; arg 2; tactic => first | exact g1 | exact map_get ho | exact hz | exact hok | exact congrArg not hz | exact congrArg not hok | exact g2)
      rfl
    · refine ⟨p'.slots.map slotD, ys, _, _, .inr (.inr ⟨x, y, rfl, rfl⟩), ?_⟩
      rw [h.loop]
      repeat (conv => lhs; whnf; arg 2; tactic => first | exact g1 | exact map_get ho | exact hz | exact hok | exact congrArg not hz | exact congrArg not hok | exact g2)
      rfl
    · refine ⟨xs, ys, _, _, .inr (.inr ⟨x, y, rfl, rfl⟩), ?_⟩
      rw [h.loop]
      repeat (conv => lhs; whnf; arg 2; tactic => first | exact g1 | exact map_get ho | exact hz | exact hok | exact congrArg not hz | exact congrArg not hok | exact g2)
      rfl
  · cases ok
    · simp only [Bool.and_false, Bool.false_eq_true, if_false]
      rcases hr with rfl | ⟨ys, rfl⟩ | ⟨xs, ys, rfl⟩
      · refine ⟨p'.slots.map slotD, p'.vols.map volD, _, _, .inr (.inr ⟨x, y, rfl, rfl⟩), ?_⟩
        rw [h.loop]
        repeat (conv => lhs; whnf; arg 2; tactic => first | exact g1 | exact map_get ho | exact hz | exact hok | exact congrArg not hz | exact congrArg not hok | exact g2)
        rfl
      · refine ⟨p'.slots.map slotD, ys, _, _, .inr (.inr ⟨x, y, rfl, rfl⟩), ?_⟩
        rw [h.loop]
        repeat (conv => lhs; whnf; arg 2; tactic => first | exact g1 | exact map_get ho | exact hz | exact hok | exact congrArg not hz | exact congrArg not hok | exact g2)
        rfl
      · refine ⟨xs, ys, _, _, .inr (.inr ⟨x, y, rfl, rfl⟩), ?_⟩
        rw [h.loop]
        repeat (conv => lhs; whnf; arg 2; tactic => first | exact g1 | exact map_get ho | exact hz | exact hok | exact congrArg not hz | exact congrArg not hok | exact g2)
        rfl
    · simp only [Bool.and_true, if_true]
      rcases hr with rfl | ⟨ys, rfl⟩ | ⟨xs, ys, rfl⟩
      · refine ⟨_, _, .inr (.inr ⟨x, y, rfl, rfl⟩), ?_⟩
        rw [h.loop]
        repeat (conv => lhs; whnf; arg 2; tactic => first | exact g1 | exact map_get ho | exact hz | exact hok | exact congrArg not hz | exact congrArg not hok | exact g2)
        conv => lhs; whnf
        rw [wrap_succ (by omega)]
        rfl
      · refine ⟨_, _, .inr (.inr ⟨x, y, rfl, rfl⟩), ?_⟩
        rw [h.loop]
        repeat (conv => lhs; whnf; arg 2; tactic => first | exact g1 | exact map_get ho | exact hz | exact hok | exact congrArg not hz | exact congrArg not hok | exact g2)
        conv => lhs; whnf
        rw [wrap_succ (by omega)]
        rfl
      · refine ⟨_, _, .inr (.inr ⟨x, y, rfl, rfl⟩), ?_⟩
        rw [h.loop]
        repeat (conv => lhs; whnf; arg 2; tactic => first | exact g1 | exact map_get ho | exact hz | exact hok | exact congrArg not hz | exact congrArg not hok | exact g2)
        conv => lhs; whnf
        rw [wrap_succ (by omega)]
        rfl
end
end Go.Gn

namespace Go.Gn
open Go
set_option linter.unusedVariables false
set_option linter.unusedSimpArgs false
set_option maxRecDepth 100000
set_option maxHeartbeats 8000000
section
variable {W : CallF} {L : LoopF} {E : EqF} {T : Prop → Bool} (h : IsK G W L E T)
include h
theorem run_loop (hK : Keeps) (ops : List OpM) (hs : OpsSz ops) : ∀ (m i : Nat) (p : PoolM) (q : Nat) (os : List Obj), i + m = ops.length → poolOk p = true → Sh false (p.slots.map slotD) (p.vols.map volD) q os →
    match runM p (ops.drop i) with
    | some p' => ∃ q' os', Sh false (p'.slots.map slotD) (p'.vols.map volD) q' os' ∧ L (norm 2 cf73.live) (exitN 2 cf73.out (evCW W L G cf73 2 c73l0)) ⟨[(1, .sl .br (ops.map opD)), (2, .ptr 2 0), (4, .ptr q 0), (6, .int .i64 (i : Nat))], os⟩ = some (.ext 0, ⟨[(2, .ptr 2 0), (4, .ptr q' 0), (5, .top)], os'⟩)
    | none => ∃ a b q' os', Sh true a b q' os' ∧ L (norm 2 cf73.live) (exitN 2 cf73.out (evCW W L G cf73 2 c73l0)) ⟨[(1, .sl .br (ops.map opD)), (2, .ptr 2 0), (4, .ptr q 0), (6, .int .i64 (i : Nat))], os⟩ = some (.ret, ⟨[(2, .ptr 2 0), (4, .ptr q' 0), (5, .bool false)], os'⟩)
  | 0, i, p, q, os, hm, hp, hsh => by
    rw [List.drop_eq_nil_of_le (show ops.length ≤ i by omega)]
    simp only [runM]
    refine ⟨q, os, hsh, ?_⟩
    rw [h.loop]
    rcases hsh with ⟨rfl, rfl⟩ | ⟨y, rfl, rfl⟩ | ⟨x, y, rfl, rfl⟩
    · repeat (conv => lhs; whnf; arg 2; tactic => first | exact g1 | exact g2)
      rfl
    · repeat (conv => lhs; whnf; arg 2; tactic => first | exact g1 | exact g2)
      rfl
    · repeat (conv => lhs; whnf; arg 2; tactic => first | exact g1 | exact g2)
      rfl
  | m + 1, i, p, q, os, hm, hp, hsh => by
    obtain ⟨o, ho⟩ := get_some (xs := ops) (i := i) (by omega)
    have hos := hs.2 o (List.mem_of_getElem? ho)
    have hg := poolOk_G hp
    rw [drop_cons ho, runM]
    have key : if sOpOk o && (sDo p o).2 then ∃ q' os', Sh false ((sDo p o).1.slots.map slotD) ((sDo p o).1.vols.map volD) q' os' ∧ L (norm 2 cf73.live) (exitN 2 cf73.out (evCW W L G cf73 2 c73l0)) ⟨[(1, .sl .br (ops.map opD)), (2, .ptr 2 0), (4, .ptr q 0), (6, .int .i64 (i : Nat))], os⟩ = L (norm 2 cf73.live) (exitN 2 cf73.out (evCW W L G cf73 2 c73l0)) ⟨[(1, .sl .br (ops.map opD)), (2, .ptr 2 0), (4, .ptr q' 0), (6, .int .i64 ((i + 1 : Nat) : Int))], os'⟩
        else ∃ a b q' os', Sh true a b q' os' ∧ L (norm 2 cf73.live) (exitN 2 cf73.out (evCW W L G cf73 2 c73l0)) ⟨[(1, .sl .br (ops.map opD)), (2, .ptr 2 0), (4, .ptr q 0), (6, .int .i64 (i : Nat))], os⟩ = some (.ret, ⟨[(2, .ptr 2 0), (4, .ptr q' 0), (5, .bool false)], os'⟩) := by
      rcases hsh with ⟨rfl, rfl⟩ | ⟨y, rfl, rfl⟩ | ⟨x, y, rfl, rfl⟩
      · exact run_step1 h ops hs.1 i o ho hos p hg
      · exact run_step2 h ops hs.1 i o ho hos p hg y
      · exact run_step3 h ops hs.1 i o ho hos p hg x y
    by_cases hc : (sOpOk o && (sDo p o).2) = true
    · rw [if_pos hc] at key ⊢
      obtain ⟨q', os', hsh', e⟩ := key
      rw [e]
      rw [Bool.and_eq_true] at hc
      exact run_loop hK ops hs m (i + 1) _ q' os' (by omega) (hK p o hp hc.1 hc.2) hsh'
    · rw [if_neg hc] at key ⊢
      exact key
theorem ev_l13Run (hK : Keeps) (p : PoolM) (hp : poolOk p = true) (ops : List OpM) (hs : OpsSz ops) : ∃ a b x, W f_spec_l13Run [.agg [.hw 0, .hw 1], .sl .br (ops.map opD)] (specP p) = some x ∧ Res3 (runM p ops).isSome a b x ∧ ∀ p', runM p ops = some p' → a = p'.slots.map slotD ∧ b = p'.vols.map volD := by
  have e := run_loop h hK ops hs ops.length 0 p 3 _ (by omega) hp (.inl ⟨rfl, rfl⟩)
  rw [nc0, List.drop_zero] at e
  cases hr : runM p ops with
  | some p' =>
    rw [hr] at e
    obtain ⟨q', os', hsh, e⟩ := e
    rcases hsh with ⟨rfl, rfl⟩ | ⟨y, rfl, rfl⟩ | ⟨x, y, rfl, rfl⟩
    · refine ⟨p'.slots.map slotD, p'.vols.map volD, _, ?_, .inl rfl, fun p2 h2 => by cases h2; exact ⟨rfl, rfl⟩⟩
      rw [h.call]
      repeat (conv => lhs; whnf; arg 2; tactic => first | exact g1 | exact e | exact congrArg not e | exact g2)
      rfl
    · refine ⟨p'.slots.map slotD, p'.vols.map volD, _, ?_, .inr (.inl ⟨y, rfl⟩), fun p2 h2 => by cases h2; exact ⟨rfl, rfl⟩⟩
      rw [h.call]
      repeat (conv => lhs; whnf; arg 2; tactic => first | exact g1 | exact e | exact congrArg not e | exact g2)
      rfl
    · refine ⟨p'.slots.map slotD, p'.vols.map volD, _, ?_, .inr (.inr ⟨x, y, rfl⟩), fun p2 h2 => by cases h2; exact ⟨rfl, rfl⟩⟩
      rw [h.call]
      repeat (conv => lhs; whnf; arg 2; tactic => first | exact g1 | exact e | exact congrArg not e | exact g2)
      rfl
  | none =>
    rw [hr] at e
    obtain ⟨a, b, q', os', hsh, e⟩ := e
    rcases hsh with ⟨rfl, rfl⟩ | ⟨y, rfl, rfl⟩ | ⟨x, y, rfl, rfl⟩
    · refine ⟨a, b, _, ?_, .inl rfl, fun p2 h2 => by cases h2⟩
      rw [h.call]
      repeat (conv => lhs; whnf; arg 2; tactic => first | exact g1 | exact e | exact congrArg not e | exact g2)
      rfl
    · refine ⟨a, b, _, ?_, .inr (.inl ⟨y, rfl⟩), fun p2 h2 => by cases h2⟩
      rw [h.call]
      repeat (conv => lhs; whnf; arg 2; tactic => first | exact g1 | exact e | exact congrArg not e | exact g2)
      rfl
    · refine ⟨a, b, _, ?_, .inr (.inr ⟨x, y, rfl⟩), fun p2 h2 => by cases h2⟩
      rw [h.call]
      repeat (conv => lhs; whnf; arg 2; tactic => first | exact g1 | exact e | exact congrArg not e | exact g2)
      rfl
end
end Go.Gn

namespace Go.Gn
open Go
set_option linter.unusedVariables false
set_option linter.unusedSimpArgs false
set_option maxRecDepth 100000
set_option maxHeartbeats 8000000
structure LogM where
  base : PoolM
  ops : List OpM
  safe : Int
  deriving DecidableEq
def logA (l : LogM) : AV := .agg [.sl .br (l.base.slots.map slotD), .sl .br (l.base.vols.map volD), .sl .br (l.ops.map opD), .int .i64 l.safe]
abbrev Sm (n : Nat) : Prop := n < 9223372036854775808
def subI (l n : Int) : Int := if l - n < 0 then -1 else l - n
def szL {α : Type} (f : α → Int → Int) : List α → Int → Int
  | [], l => l
  | x :: xs, l => if f x l < 0 then -1 else szL f xs (f x l)
def szLs {α : Type} (f : α → Int → Int) (xs : List α) (l : Int) : Int := if l - (xs.length : Int) < 0 then -1 else szL f xs (l - xs.length)
def szSlot (x : SlotM) (l : Int) : Int := subI l x.text.size
def szVol (v : VolM) (l : Int) : Int := if subI l v.name.size < 0 then -1 else subI (subI l v.name.size) v.blocks.length
def szOp (o : OpM) (l : Int) : Int := if subI l o.name.size < 0 then -1 else if subI (subI l o.name.size) o.to.size < 0 then -1 else subI (subI (subI l o.name.size) o.to.size) o.text.size
def szPool (p : PoolM) (l : Int) : Int := if szLs szSlot p.slots l < 0 then -1 else szLs szVol p.vols (szLs szSlot p.slots l)
def szLog (g : LogM) (l : Int) : Int := if szPool g.base l < 0 then -1 else szLs szOp g.ops (szPool g.base l)
abbrev InL (l : Int) : Prop := 0 ≤ l ∧ l ≤ 1048576
theorem subI_in {l : Int} {n : Nat} (h : InL l) : subI l n < 0 ∨ (InL (subI l n) ∧ (n : Int) ≤ l) := by
  unfold subI InL at *; split <;> omega
theorem subI_neg {l : Int} {n : Nat} (h : subI l n < 0) (hl : InL l) : subI l n = -1 := by
  unfold subI at *; split at h <;> rename_i hc
  · rw [if_pos hc]
  · unfold InL at *; omega
theorem wrap_sub {l : Int} {n : Nat} (h : InL l) (hn : Sm n) : IntKind.i64.wrap (l - (n : Int)) = l - n := wrap_id (by unfold InL at h; omega) (by unfold InL at h; omega)
theorem szL_in {α : Type} {f : α → Int → Int} (hf : ∀ x l, InL l → f x l < 0 ∨ InL (f x l)) : ∀ (xs : List α) (l : Int), InL l → szL f xs l < 0 ∨ InL (szL f xs l)
  | [], l, h => .inr h
  | x :: xs, l, h => by
    rw [szL]
    by_cases hc : f x l < 0
    · rw [if_pos hc]; exact .inl (by omega)
    · rw [if_neg hc]
      exact szL_in hf xs _ ((hf x l h).resolve_left hc)
theorem szLs_in {α : Type} {f : α → Int → Int} (hf : ∀ x l, InL l → f x l < 0 ∨ InL (f x l)) (xs : List α) (l : Int) (h : InL l) : szLs f xs l < 0 ∨ InL (szLs f xs l) := by
  rw [szLs]
  by_cases hc : l - (xs.length : Int) < 0
  · rw [if_pos hc]; exact .inl (by omega)
  · rw [if_neg hc]; exact szL_in hf xs _ (by unfold InL at *; omega)
theorem szSlot_in (x : SlotM) (l : Int) (h : InL l) : szSlot x l < 0 ∨ InL (szSlot x l) := (subI_in h).imp id (·.1)
theorem szVol_in (x : VolM) (l : Int) (h : InL l) : szVol x l < 0 ∨ InL (szVol x l) := by
  rw [szVol]; split
  · exact .inl (by omega)
  · rename_i hc; exact (subI_in ((subI_in h).resolve_left hc).1).imp id (·.1)
theorem szOp_in (x : OpM) (l : Int) (h : InL l) : szOp x l < 0 ∨ InL (szOp x l) := by
  rw [szOp]; split
  · exact .inl (by omega)
  · rename_i hc
    split
    · exact .inl (by omega)
    · rename_i hc2; exact (subI_in ((subI_in ((subI_in h).resolve_left hc).1).resolve_left hc2).1).imp id (·.1)
theorem szPool_in (p : PoolM) (l : Int) (h : InL l) : szPool p l < 0 ∨ InL (szPool p l) := by
  rw [szPool]; split
  · exact .inl (by omega)
  · rename_i hc; exact szLs_in szVol_in _ _ ((szLs_in szSlot_in _ _ h).resolve_left hc)
theorem szL_neg' {α : Type} {f : α → Int → Int} : ∀ (xs : List α) {l : Int}, szL f xs l < 0 → 0 ≤ l → szL f xs l = -1
  | [], l, h, hl => by rw [szL] at h; omega
  | x :: xs, l, h, hl => by
    rw [szL] at h ⊢
    by_cases hc : f x l < 0
    · rw [if_pos hc]
    · rw [if_neg hc] at h ⊢
      exact szL_neg' xs h (by omega)
theorem szL_neg {α : Type} {f : α → Int → Int} : ∀ (xs : List α) {l : Int}, szL f xs l < 0 → InL l → szL f xs l = -1
  | [], l, h, hl => by rw [szL] at h; unfold InL at hl; omega
  | x :: xs, l, h, hl => by
    rw [szL] at h ⊢
    by_cases hc : f x l < 0
    · rw [if_pos hc]
    · rw [if_neg hc] at h ⊢
      exact szL_neg' xs h (by omega)
theorem szLs_neg {α : Type} {f : α → Int → Int} (xs : List α) {l : Int} (h : szLs f xs l < 0) (hl : InL l) : szLs f xs l = -1 := by
  rw [szLs] at h ⊢
  by_cases hc : l - (xs.length : Int) < 0
  · rw [if_pos hc]
  · rw [if_neg hc] at h ⊢
    exact szL_neg' xs h (by omega)
structure VolSm (v : VolM) : Prop where
  n : Sm v.name.size
  b : Sm v.blocks.length
structure OpSm (o : OpM) : Prop where
  n : Sm o.name.size
  t : Sm o.to.size
  x : Sm o.text.size
structure PoolSm (p : PoolM) : Prop where
  sl : Sm p.slots.length
  s : ∀ x ∈ p.slots, Sm x.text.size
  vl : Sm p.vols.length
  v : ∀ x ∈ p.vols, VolSm x
structure LogSm (g : LogM) : Prop where
  b : PoolSm g.base
  ol : Sm g.ops.length
  o : ∀ x ∈ g.ops, OpSm x
section
variable {W : CallF} {L : LoopF} {E : EqF} {T : Prop → Bool} (h : IsK G W L E T)
include h
theorem ev_szSlot (x : SlotM) (hx : Sm x.text.size) (l : Int) (hl : InL l) : W f_laws_szSlot [.agg [.str x.text, .int .i64 x.uses], .int .i64 l] [] = some (.int .i64 (szSlot x l), []) := by
  have hw := wrap_sub hl hx
  rw [szSlot, subI]
  by_cases hc : l - (x.text.size : Int) < 0
  · have h1 : decide (IntKind.i64.wrap (l - (x.text.size : Int)) < 0) = true := by rw [hw]; exact decide_eq_true hc
    rw [if_pos hc, h.call]
    repeat (conv => lhs; whnf; arg 2; tactic => first | exact g1 | exact h1 | exact congrArg not h1 | exact g2)
    rfl
  · have h1 : decide (IntKind.i64.wrap (l - (x.text.size : Int)) < 0) = false := by rw [hw]; exact decide_eq_false hc
    rw [if_neg hc, h.call]
    repeat (conv => lhs; whnf; arg 2; tactic => first | exact g1 | exact h1 | exact congrArg not h1 | exact g2)
    exact congrArg (fun z => some (AV.int IntKind.i64 z, [])) hw
theorem ev_szIntS (bs : List Int) (hx : Sm bs.length) (l : Int) (hl : InL l) : W f_laws_szIntS [.sl .br (bs.map intD), .int .i64 l] [] = some (.int .i64 (subI l bs.length), []) := by
  have hw : IntKind.i64.wrap (l - (((bs.map intD).length : Nat) : Int)) = l - (bs.length : Int) := by rw [List.length_map]; exact wrap_sub hl hx
  rw [subI]
  by_cases hc : l - (bs.length : Int) < 0
  · have h1 : decide (IntKind.i64.wrap (l - (((bs.map intD).length : Nat) : Int)) < 0) = true := by rw [hw]; exact decide_eq_true hc
    rw [if_pos hc, h.call]
    repeat (conv => lhs; whnf; arg 2; tactic => first | exact g1 | exact h1 | exact congrArg not h1 | exact g2)
    rfl
  · have h1 : decide (IntKind.i64.wrap (l - (((bs.map intD).length : Nat) : Int)) < 0) = false := by rw [hw]; exact decide_eq_false hc
    rw [if_neg hc, h.call]
    repeat (conv => lhs; whnf; arg 2; tactic => first | exact g1 | exact h1 | exact congrArg not h1 | exact g2)
    exact congrArg (fun z => some (AV.int IntKind.i64 z, [])) hw
theorem ev_szVol (v : VolM) (hx : VolSm v) (l : Int) (hl : InL l) : W f_laws_szVol [.agg [.str v.name, .sl .br (v.blocks.map intD)], .int .i64 l] [] = some (.int .i64 (szVol v l), []) := by
  have hw := wrap_sub hl hx.n
  rw [szVol]
  rcases subI_in (n := v.name.size) hl with hn | ⟨hi, hn⟩
  · have h1 : decide (IntKind.i64.wrap (l - (v.name.size : Int)) < 0) = true := by rw [hw]; exact decide_eq_true (by unfold subI at hn; split at hn <;> omega)
    rw [if_pos hn, h.call]
    repeat (conv => lhs; whnf; arg 2; tactic => first | exact g1 | exact h1 | exact congrArg not h1 | exact g2)
    rfl
  · have hnn : ¬ subI l v.name.size < 0 := by unfold InL at hi; omega
    have e : subI l v.name.size = l - (v.name.size : Int) := by unfold subI; rw [if_neg (by omega)]
    have h1 : decide (IntKind.i64.wrap (l - (v.name.size : Int)) < 0) = false := by rw [hw]; exact decide_eq_false (by omega)
    have hb := ev_szIntS h v.blocks hx.b _ hi
    rw [if_neg hnn]
    rw [e, ← hw] at hb
    rw [e]
    rw [hw] at hb
    have hb' : W f_laws_szIntS [.sl .br (v.blocks.map intD), .int .i64 (IntKind.i64.wrap (l - (v.name.size : Int)))] [] = some (.int .i64 (subI (l - (v.name.size : Int)) v.blocks.length), []) := by rw [hw]; exact hb
    rw [e] at hi
    rcases subI_in (n := v.blocks.length) hi with hn2 | ⟨hi2, hn2⟩
    · have e2 := subI_neg hn2 hi
      rw [e2] at hb' ⊢
      rw [h.call]
      repeat (conv => lhs; whnf; arg 2; tactic => first | exact g1 | exact h1 | exact hb' | exact congrArg not h1 | exact congrArg not hb' | exact g2)
      rfl
    · have hg : ¬ subI (l - (v.name.size : Int)) v.blocks.length < 0 := by unfold InL at hi2; omega
      rw [h.call]
      repeat (conv => lhs; whnf; arg 2; tactic => first | exact g1 | exact h1 | exact hb' | exact decide_eq_false hg | exact congrArg not h1 | exact congrArg not hb' | exact g2)
      rfl
theorem ev_szOp (o : OpM) (hx : OpSm o) (l : Int) (hl : InL l) : W f_laws_szOp [.agg (opC o), .int .i64 l] [] = some (.int .i64 (szOp o l), []) := by
  have hw := wrap_sub hl hx.n
  rw [szOp]
  rcases subI_in (n := o.name.size) hl with hn | ⟨hi, hn⟩
  · have h1 : decide (IntKind.i64.wrap (l - (o.name.size : Int)) < 0) = true := by rw [hw]; exact decide_eq_true (by unfold subI at hn; split at hn <;> omega)
    rw [if_pos hn, h.call]
    repeat (conv => lhs; whnf; arg 2; tactic => first | exact g1 | exact h1 | exact congrArg not h1 | exact g2)
    rfl
  · have hnn : ¬ subI l o.name.size < 0 := by unfold InL at hi; omega
    have e : subI l o.name.size = l - (o.name.size : Int) := by unfold subI; rw [if_neg (by omega)]
    have h1 : decide (IntKind.i64.wrap (l - (o.name.size : Int)) < 0) = false := by rw [hw]; exact decide_eq_false (by omega)
    rw [if_neg hnn]
    rw [e] at hi ⊢
    have hw2 : IntKind.i64.wrap (IntKind.i64.wrap (l - (o.name.size : Int)) - (o.to.size : Int)) = l - (o.name.size : Int) - (o.to.size : Int) := by rw [hw]; exact wrap_sub hi hx.t
    rcases subI_in (n := o.to.size) hi with hn2 | ⟨hi2, hn2⟩
    · have h2 : decide (IntKind.i64.wrap (IntKind.i64.wrap (l - (o.name.size : Int)) - (o.to.size : Int)) < 0) = true := by rw [hw2]; exact decide_eq_true (by unfold subI at hn2; split at hn2 <;> omega)
      rw [if_pos hn2, h.call]
      repeat (conv => lhs; whnf; arg 2; tactic => first | exact g1 | exact h1 | exact h2 | exact congrArg not h1 | exact congrArg not h2 | exact g2)
      rfl
    · have hnn2 : ¬ subI (l - (o.name.size : Int)) o.to.size < 0 := by unfold InL at hi2; omega
      have e2 : subI (l - (o.name.size : Int)) o.to.size = l - (o.name.size : Int) - (o.to.size : Int) := by unfold subI; rw [if_neg (by omega)]
      have h2 : decide (IntKind.i64.wrap (IntKind.i64.wrap (l - (o.name.size : Int)) - (o.to.size : Int)) < 0) = false := by rw [hw2]; exact decide_eq_false (by omega)
      rw [if_neg hnn2]
      rw [e2] at hi2 ⊢
      have hw3 : IntKind.i64.wrap (IntKind.i64.wrap (IntKind.i64.wrap (l - (o.name.size : Int)) - (o.to.size : Int)) - (o.text.size : Int)) = l - (o.name.size : Int) - (o.to.size : Int) - (o.text.size : Int) := by rw [hw2]; exact wrap_sub hi2 hx.x
      rcases subI_in (n := o.text.size) hi2 with hn3 | ⟨hi3, hn3⟩
      · have h3 : decide (IntKind.i64.wrap (IntKind.i64.wrap (IntKind.i64.wrap (l - (o.name.size : Int)) - (o.to.size : Int)) - (o.text.size : Int)) < 0) = true := by rw [hw3]; exact decide_eq_true (by unfold subI at hn3; split at hn3 <;> omega)
        rw [subI_neg hn3 hi2, h.call]
        repeat (conv => lhs; whnf; arg 2; tactic => first | exact g1 | exact h1 | exact h2 | exact h3 | exact congrArg not h1 | exact congrArg not h2 | exact congrArg not h3 | exact g2)
        rfl
      · have e3 : subI (l - (o.name.size : Int) - (o.to.size : Int)) o.text.size = l - (o.name.size : Int) - (o.to.size : Int) - (o.text.size : Int) := by unfold subI; rw [if_neg (by omega)]
        have h3 : decide (IntKind.i64.wrap (IntKind.i64.wrap (IntKind.i64.wrap (l - (o.name.size : Int)) - (o.to.size : Int)) - (o.text.size : Int)) < 0) = false := by rw [hw3]; exact decide_eq_false (by omega)
        rw [e3, h.call]
        repeat (conv => lhs; whnf; arg 2; tactic => first | exact g1 | exact h1 | exact h2 | exact h3 | exact congrArg not h1 | exact congrArg not h2 | exact congrArg not h3 | exact g2)
        exact congrArg (fun z => some (AV.int IntKind.i64 z, [])) hw3
theorem szSlotS_loop (xs : List SlotM) (hs : xs.length < 2000000) (hx : ∀ x ∈ xs, Sm x.text.size) : ∀ (m i : Nat) (l : Int), i + m = xs.length → InL l → ∃ b : AV, L (norm 0 cf119.live) (exitN 0 cf119.out (evCW W L G cf119 0 c119l0)) ⟨[(0, .sl .br (xs.map slotD)), (1, .int .i64 l), (5, .int .i64 (i : Nat))], []⟩ =
    some (if szL szSlot (xs.drop i) l < 0 then (.ret, ⟨[(1, b), (4, .int .i64 (-1))], []⟩) else (.ext 0, ⟨[(1, .int .i64 (szL szSlot (xs.drop i) l)), (4, .top)], []⟩))
  | 0, i, l, hm, hl => by
    rw [List.drop_eq_nil_of_le (show xs.length ≤ i by omega), szL]
    refine ⟨.un, ?_⟩
    rw [if_neg (by unfold InL at hl; omega), h.loop]
    repeat (conv => lhs; whnf; arg 2; tactic => first | exact g1 | exact g2)
    rfl
  | m + 1, i, l, hm, hl => by
    obtain ⟨x, hxi⟩ := get_some (xs := xs) (i := i) (by omega)
    have e1 := ev_szSlot h x (hx x (List.mem_of_getElem? hxi)) l hl
    have hmx := map_get (f := slotD) hxi
    have hws := wrap_succ (i := i) (by omega)
    rw [drop_cons hxi, szL]
    rcases szSlot_in x l hl with hn | hn
    · refine ⟨.int .i64 (szSlot x l), ?_⟩
      rw [if_pos hn, if_pos (by decide), h.loop]
      repeat (conv => lhs; whnf; arg 2; tactic => first | exact g1 | exact hmx | exact e1 | exact decide_eq_true hn | exact congrArg not hmx | exact congrArg not e1 | exact g2)
      rfl
    · have hnn : ¬ szSlot x l < 0 := by unfold InL at hn; omega
      obtain ⟨b, ih⟩ := szSlotS_loop xs hs hx m (i + 1) (szSlot x l) (by omega) hn
      refine ⟨b, ?_⟩
      rw [if_neg hnn, ← ih, ← hws, h.loop]
      repeat (conv => lhs; whnf; arg 2; tactic => first | exact g1 | exact hmx | exact e1 | exact decide_eq_false hnn | exact congrArg not hmx | exact congrArg not e1 | exact g2)
      rfl
theorem ev_szSlotS (xs : List SlotM) (hs : Sm xs.length) (hx : ∀ x ∈ xs, Sm x.text.size) (l : Int) (hl : InL l) : W f_laws_szSlotS [.sl .br (xs.map slotD), .int .i64 l] [] = some (.int .i64 (szLs szSlot xs l), []) := by
  have hw : IntKind.i64.wrap (l - (((xs.map slotD).length : Nat) : Int)) = l - (xs.length : Int) := by rw [List.length_map]; exact wrap_sub hl hs
  rw [szLs]
  by_cases hc : l - (xs.length : Int) < 0
  · have h1 : decide (IntKind.i64.wrap (l - (((xs.map slotD).length : Nat) : Int)) < 0) = true := by rw [hw]; exact decide_eq_true hc
    rw [if_pos hc, h.call]
    repeat (conv => lhs; whnf; arg 2; tactic => first | exact g1 | exact h1 | exact congrArg not h1 | exact g2)
    rfl
  · have h1 : decide (IntKind.i64.wrap (l - (((xs.map slotD).length : Nat) : Int)) < 0) = false := by rw [hw]; exact decide_eq_false hc
    have hl2 : InL (l - (xs.length : Int)) := by unfold InL at *; omega
    obtain ⟨b, hlp⟩ := szSlotS_loop h xs (by unfold InL at hl; omega) hx xs.length 0 _ (by omega) hl2
    rw [nc0, List.drop_zero] at hlp
    have hlp' := (show L (norm 0 cf119.live) (exitN 0 cf119.out (evCW W L G cf119 0 c119l0)) ⟨[(0, .sl .br (xs.map slotD)), (1, .int .i64 (IntKind.i64.wrap (l - (((xs.map slotD).length : Nat) : Int)))), (5, .int .i64 0)], []⟩ = L (norm 0 cf119.live) (exitN 0 cf119.out (evCW W L G cf119 0 c119l0)) ⟨[(0, .sl .br (xs.map slotD)), (1, .int .i64 ((l - (xs.length : Int)))), (5, .int .i64 0)], []⟩ by rw [hw]).trans hlp
    rw [if_neg hc, h.call]
    by_cases hn : szL szSlot xs (l - (xs.length : Int)) < 0
    · rw [if_pos hn] at hlp'
      have e2 : szL szSlot xs (l - (xs.length : Int)) = -1 := szL_neg _ hn hl2
      rw [e2]
      repeat (conv => lhs; whnf; arg 2; tactic => first | exact g1 | exact h1 | exact hlp' | exact congrArg not h1 | exact congrArg not hlp' | exact g2)
      rfl
    · rw [if_neg hn] at hlp'
      repeat (conv => lhs; whnf; arg 2; tactic => first | exact g1 | exact h1 | exact hlp' | exact congrArg not h1 | exact congrArg not hlp' | exact g2)
      rfl
theorem szVolS_loop (xs : List VolM) (hs : xs.length < 2000000) (hx : ∀ x ∈ xs, VolSm x) : ∀ (m i : Nat) (l : Int), i + m = xs.length → InL l → ∃ b : AV, L (norm 0 cf120.live) (exitN 0 cf120.out (evCW W L G cf120 0 c120l0)) ⟨[(0, .sl .br (xs.map volD)), (1, .int .i64 l), (5, .int .i64 (i : Nat))], []⟩ =
    some (if szL szVol (xs.drop i) l < 0 then (.ret, ⟨[(1, b), (4, .int .i64 (-1))], []⟩) else (.ext 0, ⟨[(1, .int .i64 (szL szVol (xs.drop i) l)), (4, .top)], []⟩))
  | 0, i, l, hm, hl => by
    rw [List.drop_eq_nil_of_le (show xs.length ≤ i by omega), szL]
    refine ⟨.un, ?_⟩
    rw [if_neg (by unfold InL at hl; omega), h.loop]
    repeat (conv => lhs; whnf; arg 2; tactic => first | exact g1 | exact g2)
    rfl
  | m + 1, i, l, hm, hl => by
    obtain ⟨x, hxi⟩ := get_some (xs := xs) (i := i) (by omega)
    have e1 := ev_szVol h x (hx x (List.mem_of_getElem? hxi)) l hl
    have hmx := map_get (f := volD) hxi
    have hws := wrap_succ (i := i) (by omega)
    rw [drop_cons hxi, szL]
    rcases szVol_in x l hl with hn | hn
    · refine ⟨.int .i64 (szVol x l), ?_⟩
      rw [if_pos hn, if_pos (by decide), h.loop]
      repeat (conv => lhs; whnf; arg 2; tactic => first | exact g1 | exact hmx | exact e1 | exact decide_eq_true hn | exact congrArg not hmx | exact congrArg not e1 | exact g2)
      rfl
    · have hnn : ¬ szVol x l < 0 := by unfold InL at hn; omega
      obtain ⟨b, ih⟩ := szVolS_loop xs hs hx m (i + 1) (szVol x l) (by omega) hn
      refine ⟨b, ?_⟩
      rw [if_neg hnn, ← ih, ← hws, h.loop]
      repeat (conv => lhs; whnf; arg 2; tactic => first | exact g1 | exact hmx | exact e1 | exact decide_eq_false hnn | exact congrArg not hmx | exact congrArg not e1 | exact g2)
      rfl
theorem ev_szVolS (xs : List VolM) (hs : Sm xs.length) (hx : ∀ x ∈ xs, VolSm x) (l : Int) (hl : InL l) : W f_laws_szVolS [.sl .br (xs.map volD), .int .i64 l] [] = some (.int .i64 (szLs szVol xs l), []) := by
  have hw : IntKind.i64.wrap (l - (((xs.map volD).length : Nat) : Int)) = l - (xs.length : Int) := by rw [List.length_map]; exact wrap_sub hl hs
  rw [szLs]
  by_cases hc : l - (xs.length : Int) < 0
  · have h1 : decide (IntKind.i64.wrap (l - (((xs.map volD).length : Nat) : Int)) < 0) = true := by rw [hw]; exact decide_eq_true hc
    rw [if_pos hc, h.call]
    repeat (conv => lhs; whnf; arg 2; tactic => first | exact g1 | exact h1 | exact congrArg not h1 | exact g2)
    rfl
  · have h1 : decide (IntKind.i64.wrap (l - (((xs.map volD).length : Nat) : Int)) < 0) = false := by rw [hw]; exact decide_eq_false hc
    have hl2 : InL (l - (xs.length : Int)) := by unfold InL at *; omega
    obtain ⟨b, hlp⟩ := szVolS_loop h xs (by unfold InL at hl; omega) hx xs.length 0 _ (by omega) hl2
    rw [nc0, List.drop_zero] at hlp
    have hlp' := (show L (norm 0 cf120.live) (exitN 0 cf120.out (evCW W L G cf120 0 c120l0)) ⟨[(0, .sl .br (xs.map volD)), (1, .int .i64 (IntKind.i64.wrap (l - (((xs.map volD).length : Nat) : Int)))), (5, .int .i64 0)], []⟩ = L (norm 0 cf120.live) (exitN 0 cf120.out (evCW W L G cf120 0 c120l0)) ⟨[(0, .sl .br (xs.map volD)), (1, .int .i64 ((l - (xs.length : Int)))), (5, .int .i64 0)], []⟩ by rw [hw]).trans hlp
    rw [if_neg hc, h.call]
    by_cases hn : szL szVol xs (l - (xs.length : Int)) < 0
    · rw [if_pos hn] at hlp'
      have e2 : szL szVol xs (l - (xs.length : Int)) = -1 := szL_neg _ hn hl2
      rw [e2]
      repeat (conv => lhs; whnf; arg 2; tactic => first | exact g1 | exact h1 | exact hlp' | exact congrArg not h1 | exact congrArg not hlp' | exact g2)
      rfl
    · rw [if_neg hn] at hlp'
      repeat (conv => lhs; whnf; arg 2; tactic => first | exact g1 | exact h1 | exact hlp' | exact congrArg not h1 | exact congrArg not hlp' | exact g2)
      rfl
theorem szOpS_loop (xs : List OpM) (hs : xs.length < 2000000) (hx : ∀ x ∈ xs, OpSm x) : ∀ (m i : Nat) (l : Int), i + m = xs.length → InL l → ∃ b : AV, L (norm 0 cf71.live) (exitN 0 cf71.out (evCW W L G cf71 0 c71l0)) ⟨[(0, .sl .br (xs.map opD)), (1, .int .i64 l), (5, .int .i64 (i : Nat))], []⟩ =
    some (if szL szOp (xs.drop i) l < 0 then (.ret, ⟨[(1, b), (4, .int .i64 (-1))], []⟩) else (.ext 0, ⟨[(1, .int .i64 (szL szOp (xs.drop i) l)), (4, .top)], []⟩))
  | 0, i, l, hm, hl => by
    rw [List.drop_eq_nil_of_le (show xs.length ≤ i by omega), szL]
    refine ⟨.un, ?_⟩
    rw [if_neg (by unfold InL at hl; omega), h.loop]
    repeat (conv => lhs; whnf; arg 2; tactic => first | exact g1 | exact g2)
    rfl
  | m + 1, i, l, hm, hl => by
    obtain ⟨x, hxi⟩ := get_some (xs := xs) (i := i) (by omega)
    have e1 := ev_szOp h x (hx x (List.mem_of_getElem? hxi)) l hl
    have hmx := map_get (f := opD) hxi
    have hws := wrap_succ (i := i) (by omega)
    rw [drop_cons hxi, szL]
    rcases szOp_in x l hl with hn | hn
    · refine ⟨.int .i64 (szOp x l), ?_⟩
      rw [if_pos hn, if_pos (by decide), h.loop]
      repeat (conv => lhs; whnf; arg 2; tactic => first | exact g1 | exact hmx | exact e1 | exact decide_eq_true hn | exact congrArg not hmx | exact congrArg not e1 | exact g2)
      rfl
    · have hnn : ¬ szOp x l < 0 := by unfold InL at hn; omega
      obtain ⟨b, ih⟩ := szOpS_loop xs hs hx m (i + 1) (szOp x l) (by omega) hn
      refine ⟨b, ?_⟩
      rw [if_neg hnn, ← ih, ← hws, h.loop]
      repeat (conv => lhs; whnf; arg 2; tactic => first | exact g1 | exact hmx | exact e1 | exact decide_eq_false hnn | exact congrArg not hmx | exact congrArg not e1 | exact g2)
      rfl
theorem ev_szOpS (xs : List OpM) (hs : Sm xs.length) (hx : ∀ x ∈ xs, OpSm x) (l : Int) (hl : InL l) : W f_laws_szOpS [.sl .br (xs.map opD), .int .i64 l] [] = some (.int .i64 (szLs szOp xs l), []) := by
  have hw : IntKind.i64.wrap (l - (((xs.map opD).length : Nat) : Int)) = l - (xs.length : Int) := by rw [List.length_map]; exact wrap_sub hl hs
  rw [szLs]
  by_cases hc : l - (xs.length : Int) < 0
  · have h1 : decide (IntKind.i64.wrap (l - (((xs.map opD).length : Nat) : Int)) < 0) = true := by rw [hw]; exact decide_eq_true hc
    rw [if_pos hc, h.call]
    repeat (conv => lhs; whnf; arg 2; tactic => first | exact g1 | exact h1 | exact congrArg not h1 | exact g2)
    rfl
  · have h1 : decide (IntKind.i64.wrap (l - (((xs.map opD).length : Nat) : Int)) < 0) = false := by rw [hw]; exact decide_eq_false hc
    have hl2 : InL (l - (xs.length : Int)) := by unfold InL at *; omega
    obtain ⟨b, hlp⟩ := szOpS_loop h xs (by unfold InL at hl; omega) hx xs.length 0 _ (by omega) hl2
    rw [nc0, List.drop_zero] at hlp
    have hlp' := (show L (norm 0 cf71.live) (exitN 0 cf71.out (evCW W L G cf71 0 c71l0)) ⟨[(0, .sl .br (xs.map opD)), (1, .int .i64 (IntKind.i64.wrap (l - (((xs.map opD).length : Nat) : Int)))), (5, .int .i64 0)], []⟩ = L (norm 0 cf71.live) (exitN 0 cf71.out (evCW W L G cf71 0 c71l0)) ⟨[(0, .sl .br (xs.map opD)), (1, .int .i64 ((l - (xs.length : Int)))), (5, .int .i64 0)], []⟩ by rw [hw]).trans hlp
    rw [if_neg hc, h.call]
    by_cases hn : szL szOp xs (l - (xs.length : Int)) < 0
    · rw [if_pos hn] at hlp'
      have e2 : szL szOp xs (l - (xs.length : Int)) = -1 := szL_neg _ hn hl2
      rw [e2]
      repeat (conv => lhs; whnf; arg 2; tactic => first | exact g1 | exact h1 | exact hlp' | exact congrArg not h1 | exact congrArg not hlp' | exact g2)
      rfl
    · rw [if_neg hn] at hlp'
      repeat (conv => lhs; whnf; arg 2; tactic => first | exact g1 | exact h1 | exact hlp' | exact congrArg not h1 | exact congrArg not hlp' | exact g2)
      rfl
theorem ev_szPool (p : PoolM) (hs : PoolSm p) (l : Int) (hl : InL l) : W f_laws_szPool [poolA p, .int .i64 l] [] = some (.int .i64 (szPool p l), []) := by
  have e1 := ev_szSlotS h p.slots hs.sl hs.s l hl
  rw [szPool]
  rcases szLs_in szSlot_in p.slots l hl with hn | hn
  · rw [if_pos hn, h.call]
    repeat (conv => lhs; whnf; arg 2; tactic => first | exact g1 | exact e1 | exact decide_eq_true hn | exact congrArg not e1 | exact g2)
    rfl
  · have hnn : ¬ szLs szSlot p.slots l < 0 := by unfold InL at hn; omega
    have e2 := ev_szVolS h p.vols hs.vl hs.v _ hn
    rw [if_neg hnn, h.call]
    rcases szLs_in szVol_in p.vols _ hn with hm | hm
    · rw [szLs_neg _ hm hn] at e2 ⊢
      repeat (conv => lhs; whnf; arg 2; tactic => first | exact g1 | exact e1 | exact decide_eq_false hnn | exact e2 | exact congrArg not e1 | exact congrArg not e2 | exact g2)
      rfl
    · have hmm : ¬ szLs szVol p.vols (szLs szSlot p.slots l) < 0 := by unfold InL at hm; omega
      repeat (conv => lhs; whnf; arg 2; tactic => first | exact g1 | exact e1 | exact decide_eq_false hnn | exact e2 | exact decide_eq_false hmm | exact congrArg not e1 | exact congrArg not e2 | exact g2)
      rfl
theorem ev_szLog (g : LogM) (hs : LogSm g) (l : Int) (hl : InL l) : W f_laws_szLog [logA g, .int .i64 l] [] = some (.int .i64 (szLog g l), []) := by
  have e1 := ev_szPool h g.base hs.b l hl
  rw [szLog]
  rcases szPool_in g.base l hl with hn | hn
  · rw [if_pos hn, h.call]
    repeat (conv => lhs; whnf; arg 2; tactic => first | exact g1 | exact e1 | exact decide_eq_true hn | exact congrArg not e1 | exact g2)
    rfl
  · have hnn : ¬ szPool g.base l < 0 := by unfold InL at hn; omega
    have e2 := ev_szOpS h g.ops hs.ol hs.o _ hn
    rw [if_neg hnn, h.call]
    rcases szLs_in szOp_in g.ops _ hn with hm | hm
    · rw [szLs_neg _ hm hn] at e2 ⊢
      repeat (conv => lhs; whnf; arg 2; tactic => first | exact g1 | exact e1 | exact decide_eq_false hnn | exact e2 | exact congrArg not e1 | exact congrArg not e2 | exact g2)
      rfl
    · have hmm : ¬ szLs szOp g.ops (szPool g.base l) < 0 := by unfold InL at hm; omega
      repeat (conv => lhs; whnf; arg 2; tactic => first | exact g1 | exact e1 | exact decide_eq_false hnn | exact e2 | exact decide_eq_false hmm | exact congrArg not e1 | exact congrArg not e2 | exact g2)
      rfl
end
end Go.Gn

namespace Go.Gn
open Go
set_option linter.unusedVariables false
def kyb : Str → Nat
  | ⟨⟨[a]⟩⟩ => a.toNat
  | _ => 0
theorem nm_cases {s : Str} (h : isName s = true) : s = ⟨#[65]⟩ ∨ s = ⟨#[66]⟩ ∨ s = ⟨#[67]⟩ ∨ s = ⟨#[68]⟩ := by
  simpa [isName, seq_eq] using h
theorem nm_key {s : Str} (h : isName s = true) : 65 ≤ kyb s ∧ kyb s ≤ 68 := by
  rcases nm_cases h with h | h | h | h <;> subst h <;> decide
theorem nm_inj {a b : Str} (ha : isName a = true) (hb : isName b = true) (h : kyb a = kyb b) : a = b := by
  rcases nm_cases ha with h1 | h1 | h1 | h1 <;> rcases nm_cases hb with h2 | h2 | h2 | h2 <;> subst h1 <;> subst h2 <;> first | rfl | (exfalso; revert h; decide)
theorem nm_less {a b : Str} (ha : isName a = true) (hb : isName b = true) : Op.bytesLess a.toList b.toList = decide (kyb a < kyb b) := by
  rcases nm_cases ha with h1 | h1 | h1 | h1 <;> rcases nm_cases hb with h2 | h2 | h2 | h2 <;> subst h1 <;> subst h2 <;> decide +kernel
theorem nm_geq {a b : Str} (ha : isName a = true) (hb : isName b = true) : geq a b = decide (kyb b ≤ kyb a) := by
  rw [geq, nm_less ha hb]; by_cases h : kyb a < kyb b
  · simp [h]
  · simp [h]; omega
theorem nm_gt {a b : Str} (ha : isName a = true) (hb : isName b = true) : gtS a b = decide (kyb b < kyb a) := by
  rcases nm_cases ha with h1 | h1 | h1 | h1 <;> rcases nm_cases hb with h2 | h2 | h2 | h2 <;> subst h1 <;> subst h2 <;> decide +kernel
theorem nm_cmp {a b : Str} (ha : isName a = true) (hb : isName b = true) : decide (cmpStr a b < 0) = decide (kyb a < kyb b) := by
  rw [cmpStr, nm_less ha hb, nm_less hb ha]
  by_cases h : kyb a < kyb b
  · simp [h]
  · simp [h]; split <;> omega
theorem sName_eq (s : Str) : sName s = isName s := by
  cases hs : isName s with
  | true => rcases nm_cases hs with h | h | h | h <;> subst h <;> decide
  | false =>
    match s with
    | ⟨⟨[]⟩⟩ => rfl
    | ⟨⟨[a]⟩⟩ =>
      have e : sName ⟨⟨[a]⟩⟩ = inR (byteAt ⟨⟨[a]⟩⟩ 0) 65 68 := rfl
      have e2 : byteAt ⟨⟨[a]⟩⟩ 0 = (a.toNat : Int) := rfl
      rw [e, e2]
      cases hc : inR (a.toNat : Int) 65 68 with
      | false => rfl
      | true =>
        exfalso
        have h2 : 65 ≤ a.toNat ∧ a.toNat ≤ 68 := by simp [inR] at hc; omega
        have : a.toNat = 65 ∨ a.toNat = 66 ∨ a.toNat = 67 ∨ a.toNat = 68 := by omega
        have hx : ∀ b : UInt8, a.toNat = b.toNat → a = b := fun b hb => UInt8.toNat_inj.mp hb
        rcases this with h | h | h | h
        · have := hx 65 h; subst this; revert hs; decide +kernel
        · have := hx 66 h; subst this; revert hs; decide +kernel
        · have := hx 67 h; subst this; revert hs; decide +kernel
        · have := hx 68 h; subst this; revert hs; decide +kernel
    | ⟨⟨a :: b :: l⟩⟩ =>
      have e : ((ByteArray.size ⟨⟨a :: b :: l⟩⟩ : Nat) : Int) ≠ 1 := by
        show ((l.length + 1 + 1 : Nat) : Int) ≠ 1
        omega
      rw [sName, beq_false_of_ne e]
def SortV (vs : List VolM) : Prop := vs.Pairwise fun a b => kyb a.name < kyb b.name
def NmV (vs : List VolM) : Prop := ∀ v ∈ vs, isName v.name = true
theorem sort_len : ∀ (vs : List VolM) (lo : Nat), SortV vs → (∀ v ∈ vs, lo ≤ kyb v.name ∧ kyb v.name ≤ 68) → lo ≤ 69 → vs.length ≤ 69 - lo
  | [], lo, _, _, _ => by simp
  | v :: vs, lo, hs, hr, hl => by
    have h1 := hr v (by simp)
    have h2 := List.pairwise_cons.mp hs
    have := sort_len vs (kyb v.name + 1) h2.2 (fun u hu => ⟨h2.1 u hu, (hr u (by simp [hu])).2⟩) (by omega)
    simp only [List.length_cons]; omega
theorem sort_len4 {vs : List VolM} (hs : SortV vs) (hn : NmV vs) : vs.length ≤ 4 := by
  have := sort_len vs 65 hs (fun v hv => nm_key (hn v hv)) (by omega)
  omega
theorem volsOkL_iff (vs : List VolM) : ∀ m i, i + m = vs.length → (volsOkL vs m i = true ↔ (∀ j v, i ≤ j → vs[j]? = some v → volOk v = true) ∧ ∀ j u v, i ≤ j + 1 → vs[j]? = some u → vs[j + 1]? = some v → geq u.name v.name = false)
  | 0, i, hi => by
    rw [volsOkL]
    simp only [true_iff]
    constructor
    · intro j v hj hv
      have := (List.getElem?_eq_some_iff.mp hv).1
      omega
    · intro j u v hj hu hv
      have := (List.getElem?_eq_some_iff.mp hv).1
      omega
  | m + 1, i, hi => by
    obtain ⟨w, hw⟩ := get_some (xs := vs) (i := i) (by omega)
    have ih := volsOkL_iff vs m (i + 1) (by omega)
    rw [volsOkL, hw]
    simp only [Bool.and_eq_true, ih]
    constructor
    · rintro ⟨h1, h2, h3, h4⟩
      constructor
      · intro j v hj hv
        by_cases e : j = i
        · subst e; rw [hw] at hv; cases hv; exact h1
        · exact h3 j v (by omega) hv
      · intro j u v hj hu hv
        by_cases e : j + 1 = i
        · subst e
          rw [hw] at hv; cases hv
          simp only [hu, Bool.not_eq_true'] at h2
          exact h2
        · exact h4 j u v (by omega) hu hv
    · rintro ⟨h1, h2⟩
      refine ⟨h1 i w (by omega) hw, ?_, fun j v hj hv => h1 j v (by omega) hv, fun j u v hj hu hv => h2 j u v (by omega) hu hv⟩
      cases i with
      | zero => rfl
      | succ j =>
        obtain ⟨u, hu⟩ := get_some (xs := vs) (i := j) (by omega)
        simp only [hu, Bool.not_eq_true']
        exact h2 j u w (by omega) hu hw
theorem adj_sort : ∀ (vs : List VolM), (∀ j u v, vs[j]? = some u → vs[j + 1]? = some v → kyb u.name < kyb v.name) → SortV vs
  | [], _ => List.Pairwise.nil
  | [a], _ => List.pairwise_singleton _ _
  | a :: b :: l, h => by
    have ih := adj_sort (b :: l) (fun j u v hu hv => h (j + 1) u v (by simpa using hu) (by simpa using hv))
    have hab := h 0 a b rfl rfl
    refine List.pairwise_cons.mpr ⟨fun c hc => ?_, ih⟩
    rcases List.mem_cons.mp hc with e | hc
    · rw [e]; exact hab
    · exact Nat.lt_trans hab ((List.pairwise_cons.mp ih).1 c hc)
theorem volOk_nm {v : VolM} (h : volOk v = true) : isName v.name = true := by
  simp only [volOk, Bool.and_eq_true] at h
  exact h.2.1
theorem vols_iff (vs : List VolM) : volsOkL vs vs.length 0 = true ↔ (∀ v ∈ vs, volOk v = true) ∧ SortV vs := by
  rw [volsOkL_iff vs vs.length 0 (by omega)]
  constructor
  · rintro ⟨h1, h2⟩
    have h3 : ∀ v ∈ vs, volOk v = true := fun v hv => by
      obtain ⟨j, hj⟩ := List.getElem?_of_mem hv
      exact h1 j v (by omega) hj
    refine ⟨h3, adj_sort vs fun j u v hu hv => ?_⟩
    have := h2 j u v (by omega) hu hv
    rw [nm_geq (volOk_nm (h3 u (List.mem_of_getElem? hu))) (volOk_nm (h3 v (List.mem_of_getElem? hv)))] at this
    simpa using this
  · rintro ⟨h1, h2⟩
    refine ⟨fun j v _ hv => h1 v (List.mem_of_getElem? hv), fun j u v _ hu hv => ?_⟩
    rw [nm_geq (volOk_nm (h1 u (List.mem_of_getElem? hu))) (volOk_nm (h1 v (List.mem_of_getElem? hv)))]
    have ⟨hj, e1⟩ := List.getElem?_eq_some_iff.mp hu
    have ⟨hj2, e2⟩ := List.getElem?_eq_some_iff.mp hv
    have := List.pairwise_iff_getElem.mp h2 j (j + 1) hj hj2 (by omega)
    rw [e1, e2] at this
    simpa using this
theorem insS_sort {v : VolM} (hv : isName v.name = true) : ∀ {vs : List VolM}, NmV vs → SortV vs → (∀ u ∈ vs, u.name ≠ v.name) → SortV (insS v vs) ∧ ∀ u, u ∈ insS v vs ↔ u = v ∨ u ∈ vs
  | [], _, _, _ => ⟨List.pairwise_singleton _ _, fun u => by simp [insS]⟩
  | w :: ws, hn, hs, hne => by
    have hw := hn w (by simp)
    have hp := List.pairwise_cons.mp hs
    rw [insS, nm_gt hw hv]
    by_cases hk : kyb v.name < kyb w.name
    · simp only [hk, decide_true, if_true]
      refine ⟨List.pairwise_cons.mpr ⟨fun u hu => ?_, hs⟩, fun u => by simp⟩
      rcases List.mem_cons.mp hu with e | hu
      · rw [e]; exact hk
      · exact Nat.lt_trans hk (hp.1 u hu)
    · simp only [hk, decide_false, Bool.false_eq_true, if_false]
      have ih := insS_sort hv (vs := ws) (fun u hu => hn u (by simp [hu])) hp.2 (fun u hu => hne u (by simp [hu]))
      refine ⟨List.pairwise_cons.mpr ⟨fun u hu => ?_, ih.1⟩, fun u => ?_⟩
      · rcases (ih.2 u).mp hu with e | hu
        · rw [e]
          have h1 : kyb w.name ≠ kyb v.name := fun e => hne w (by simp) (nm_inj hw hv e)
          omega
        · exact hp.1 u hu
      · simp only [List.mem_cons, ih.2 u]
        constructor
        · rintro (h | h | h)
          · exact .inr (.inl h)
          · exact .inl h
          · exact .inr (.inr h)
        · rintro (h | h | h)
          · exact .inr (.inl h)
          · exact .inl h
          · exact .inr (.inr h)
theorem insS_cut {v : VolM} : ∀ {vs : List VolM} (k : Nat), k ≤ vs.length → (∀ j u, j < k → vs[j]? = some u → gtS u.name v.name = false) → (∀ u, vs[k]? = some u → gtS u.name v.name = true) → insS v vs = vs.take k ++ [v] ++ vs.drop k
  | [], 0, _, _, _ => rfl
  | [], k + 1, h, _, _ => by simp at h
  | w :: ws, 0, _, _, h2 => by
    rw [insS, h2 w rfl]; rfl
  | w :: ws, k + 1, hk, h1, h2 => by
    rw [insS, h1 0 w (by omega) rfl]
    simp only [Bool.false_eq_true, if_false, List.take_succ_cons, List.drop_succ_cons, List.cons_append]
    rw [insS_cut (vs := ws) k (by simpa using hk) (fun j u hj hu => h1 (j + 1) u (by omega) (by simpa using hu)) (fun u hu => h2 u (by simpa using hu))]
theorem bs_spec {vs : List VolM} {n : Str} (hn : NmV vs) (hn2 : isName n = true) (hs : SortV vs) : ∀ f i j, j - i ≤ f → i ≤ j → j ≤ vs.length → (∀ k u, k < i → vs[k]? = some u → kyb u.name < kyb n) → (∀ k u, j ≤ k → vs[k]? = some u → kyb n ≤ kyb u.name) →
    bs vs n f i j ≤ vs.length ∧ (∀ k u, k < bs vs n f i j → vs[k]? = some u → kyb u.name < kyb n) ∧ (∀ k u, bs vs n f i j ≤ k → vs[k]? = some u → kyb n ≤ kyb u.name)
  | 0, i, j, hf, hij, hj, h1, h2 => by
    have : j = i := by omega
    subst this
    rw [bs]
    exact ⟨hj, h1, h2⟩
  | f + 1, i, j, hf, hij, hj, h1, h2 => by
    rw [bs]
    by_cases hlt : i < j
    · rw [if_pos hlt]
      obtain ⟨w, hw⟩ := get_some (xs := vs) (i := (i + j) / 2) (by omega)
      have hwn := hn w (List.mem_of_getElem? hw)
      have ⟨hj1, e1⟩ := List.getElem?_eq_some_iff.mp hw
      have hpi := List.pairwise_iff_getElem.mp hs
      rw [hw]
      have hc := nm_cmp hwn hn2
      by_cases hk : kyb w.name < kyb n
      · have hc2 : cmpStr w.name n < 0 := by simpa [hk] using hc
        show _ ∧ _ ∧ _
        simp only [hc2, if_true]
        refine bs_spec hn hn2 hs f ((i + j) / 2 + 1) j (by omega) (by omega) hj (fun k u hk2 hu => ?_) h2
        have ⟨hk1, e2⟩ := List.getElem?_eq_some_iff.mp hu
        by_cases e : k = (i + j) / 2
        · subst e; rw [hw] at hu; cases hu; exact hk
        · have := hpi k ((i + j) / 2) hk1 hj1 (by omega)
          rw [e1, e2] at this
          omega
      · have hc2 : ¬ cmpStr w.name n < 0 := by simpa [hk] using hc
        simp only [hc2, if_false]
        refine bs_spec hn hn2 hs f i ((i + j) / 2) (by omega) (by omega) (by omega) h1 (fun k u hk2 hu => ?_)
        have ⟨hk1, e2⟩ := List.getElem?_eq_some_iff.mp hu
        by_cases e : k = (i + j) / 2
        · subst e; rw [hw] at hu; cases hu; omega
        · have := hpi ((i + j) / 2) k hj1 hk1 (by omega)
          rw [e1, e2] at this
          omega
    · rw [if_neg hlt]
      have : j = i := by omega
      subst this
      exact ⟨hj, h1, h2⟩
theorem insV_eq {vs : List VolM} {v : VolM} (hn : NmV vs) (hv : isName v.name = true) (hs : SortV vs) (hne : ∀ u ∈ vs, u.name ≠ v.name) : insV vs v = insS v vs := by
  have h := bs_spec hn hv hs vs.length 0 vs.length (by omega) (by omega) (Nat.le_refl _) (fun k u hk _ => by omega) (fun k u hk hu => by
    have := (List.getElem?_eq_some_iff.mp hu).1
    omega)
  rw [insV, insIx]
  refine (insS_cut _ h.1 (fun j u hj hu => ?_) (fun u hu => ?_)).symm
  · have := h.2.1 j u hj hu
    rw [nm_gt (hn u (List.mem_of_getElem? hu)) hv]
    simp; omega
  · have := h.2.2 _ u (Nat.le_refl _) hu
    have hu2 := List.mem_of_getElem? hu
    rw [nm_gt (hn u hu2) hv]
    have h1 : kyb u.name ≠ kyb v.name := fun e => hne u hu2 (nm_inj (hn u hu2) hv e)
    simp; omega
theorem fnd_none {α : Type} {p : α → Bool} : ∀ {xs : List α} {i : Nat}, fnd p xs i = none ↔ ∀ x ∈ xs, p x = false
  | [], i => by simp [fnd]
  | x :: xs, i => by
    rw [fnd]
    cases hp : p x with
    | true => simp [hp]
    | false =>
      show fnd p xs (i + 1) = none ↔ _
      rw [fnd_none (xs := xs)]
      simp [hp]
theorem fndI_neg {r : Option Nat} : decide (fndI r < 0) = r.isNone := by
  cases r with
  | none => rfl
  | some i => exact decide_eq_false (fun (e : (i : Int) < 0) => by omega)
theorem fndI_nn {r : Option Nat} : decide (fndI r ≥ 0) = r.isSome := by
  cases r with
  | none => rfl
  | some i => simp [fndI]
theorem volIx_none {vs : List VolM} {n : Str} : volIx vs n = none ↔ ∀ u ∈ vs, u.name ≠ n := by
  rw [volIx, fnd_none]
  constructor
  · intro h u hu e
    have := h u hu
    rw [e, seq_refl] at this
    cases this
  · intro h u hu
    rw [seq_eq]; simpa using h u hu
theorem volIx_some {vs : List VolM} {n : Str} {i : Nat} (h : volIx vs n = some i) : ∃ v, vs[i]? = some v ∧ v.name = n ∧ i < vs.length := by
  obtain ⟨_, h2, v, hv, hp⟩ := fnd_lt h
  refine ⟨v, by simpa using hv, ?_, by omega⟩
  rw [seq_eq] at hp
  simpa using hp
end Go.Gn

namespace Go.Gn
open Go
set_option linter.unusedVariables false
set_option linter.unusedSimpArgs false
set_option maxRecDepth 100000
set_option maxHeartbeats 4000000
theorem fnd_any {α : Type} (p : α → Bool) : ∀ (xs : List α) (i : Nat), (fnd p xs i).isSome = xs.any p
  | [], _ => rfl
  | x :: xs, i => by
    simp only [fnd, List.any_cons]
    cases p x
    · simp only [Bool.false_or]; exact fnd_any p xs (i + 1)
    · rfl
theorem seq_comm (a b : Str) : seq a b = seq b a := by rw [seq_eq, seq_eq]; exact decide_eq_decide.mpr ⟨Eq.symm, Eq.symm⟩
section
variable {W : CallF} {L : LoopF} {E : EqF} {T : Prop → Bool} (h : IsK G W L E T)
include h
theorem sVolOk_loop (nm : Str) (bs : List Int) (hl : bs.length < 4611686018427387904) : ∀ m i, i + m = bs.length → L (norm 0 cf116.live) (exitN 0 cf116.out (evCW W L G cf116 0 c116l0)) ⟨[(1, .ptr 0 0), (3, .int .i64 (i : Nat))], [.box [.str nm, .sl .br (bs.map intD)]]⟩ =
    some (if inAll 0 8 (bs.drop i) then (.ext 0, ⟨[(1, .ptr 0 0), (2, .top)], [.box [.str nm, .sl .br (bs.map intD)]]⟩) else (.ret, ⟨[(1, .ptr 0 0), (2, .bool false)], [.box [.str nm, .sl .br (bs.map intD)]]⟩))
  | 0, i, hm => by
    rw [h.loop, List.drop_eq_nil_of_le (show bs.length ≤ i by omega)]
    repeat (conv => lhs; whnf; arg 2; tactic => first | exact g1 | exact g2)
    rfl
  | m + 1, i, hm => by
    obtain ⟨x, hx⟩ := get_some (xs := bs) (i := i) (by omega)
    rw [h.loop, drop_cons hx, inAll_cons]
    cases hr : inR x 0 8
    · repeat (conv => lhs; whnf; arg 2; tactic => first | exact g1 | exact map_get hx | exact ev_l6In h _ _ _ | exact hr | exact congrArg not hr | exact g2)
      rfl
    · repeat (conv => lhs; whnf; arg 2; tactic => first | exact g1 | exact map_get hx | exact ev_l6In h _ _ _ | exact hr | exact congrArg not hr | exact g2)
      conv => lhs; whnf
      rw [wrap_succ (by omega), sVolOk_loop nm bs hl m (i + 1) (by omega)]
      rfl
theorem ev_sVolOk (v : VolM) (hl : v.blocks.length < 4611686018427387904) : W f_spec_VolOk [.agg [.str v.name, .sl .br (v.blocks.map intD)]] [] = some (.bool (volOk v), []) := by
  have e := sVolOk_loop h v.name v.blocks hl v.blocks.length 0 (by omega)
  rw [nc0, List.drop_zero] at e
  have hn := sName_eq v.name
  have hi : inR ((v.blocks.map intD).length : Nat) 1 6 = inR v.blocks.length 1 6 := by rw [List.length_map]
  unfold volOk
  rw [h.call, ← hn, ← hi]
  cases ha : inAll 0 8 v.blocks
  · rw [ha] at e
    repeat (conv => lhs; whnf; arg 2; tactic => first | exact g1 | exact e | exact congrArg not e | exact g2)
    rfl
  · rw [ha] at e
    cases hs : sName v.name
    · repeat (conv => lhs; whnf; arg 2; tactic => first | exact g1 | exact e | exact ev_l3Name h _ | exact hs | exact congrArg not e | exact congrArg not hs | exact g2)
      rfl
    · repeat (conv => lhs; whnf; arg 2; tactic => first | exact g1 | exact e | exact ev_l3Name h _ | exact hs | exact ev_l6In h _ _ _ | exact congrArg not e | exact congrArg not hs | exact g2)
      rfl
theorem suses_loop (nm : Str) (bs : List Int) (hl : bs.length < 4611686018427387904) (p : Int) : ∀ (m i : Nat) (acc : Int), i + m = bs.length → 0 ≤ acc → acc ≤ i → L (norm 0 cf164.live) (exitN 0 cf164.out (evCW W L G cf164 0 c164l0)) ⟨[(1, .int .i64 p), (2, .ptr 0 0), (5, .int .i64 acc), (6, .int .i64 (i : Nat))], [.box [.str nm, .sl .br (bs.map intD)]]⟩ =
    some (.ext 0, ⟨[(4, .top), (5, .int .i64 (acc + cnt (bs.drop i) p))], []⟩)
  | 0, i, acc, hm, h1, h2 => by
    rw [h.loop, List.drop_eq_nil_of_le (show bs.length ≤ i by omega)]
    repeat (conv => lhs; whnf; arg 2; tactic => first | exact g1 | exact g2)
    rw [show acc + cnt [] p = acc by simp [cnt]]
    rfl
  | m + 1, i, acc, hm, h1, h2 => by
    obtain ⟨x, hx⟩ := get_some (xs := bs) (i := i) (by omega)
    rw [h.loop, drop_cons hx, cnt_cons]
    cases hr : x == p
    · repeat (conv => lhs; whnf; arg 2; tactic => first | exact g1 | exact map_get hx | exact hr | exact congrArg not hr | exact g2)
      conv => lhs; whnf
      rw [wrap_succ (by omega), suses_loop nm bs hl p m (i + 1) acc (by omega) h1 (by omega), if_neg (by simp), Int.zero_add]
    · repeat (conv => lhs; whnf; arg 2; tactic => first | exact g1 | exact map_get hx | exact hr | exact congrArg not hr | exact g2)
      conv => lhs; whnf
      rw [wrap_succ (by omega), wrap_id (n := acc + 1) (by omega) (by omega), suses_loop nm bs hl p m (i + 1) (acc + 1) (by omega) (by omega) (by omega), if_pos rfl, Int.add_assoc]
theorem ev_l3Uses (v : VolM) (hl : v.blocks.length < 4611686018427387904) (p : Int) : W f_spec_l3Uses [.agg [.str v.name, .sl .br (v.blocks.map intD)], .int .i64 p] [] = some (.int .i64 (cnt v.blocks p), []) := by
  have e := suses_loop h v.name v.blocks hl p v.blocks.length 0 0 (by omega) (by omega) (by omega)
  rw [nc0, List.drop_zero, Int.zero_add] at e
  rw [h.call]
  repeat (conv => lhs; whnf; arg 2; tactic => first | exact g1 | exact e | exact congrArg not e | exact g2)
  rfl
theorem sumU_loop (p : PoolM) (hn : ∀ v ∈ p.vols, v.blocks.length ≤ 6) (hl : p.vols.length ≤ 4) (k : Int) : ∀ (m i : Nat) (acc : Int), i + m = p.vols.length → 0 ≤ acc → acc ≤ i * 6 → L (norm 0 cf117.live) (exitN 0 cf117.out (evCW W L G cf117 0 c117l0)) ⟨[(1, .int .i64 k), (2, .ptr 0 0), (5, .int .i64 acc), (6, .int .i64 (i : Nat))], [boxP p]⟩ =
    some (.ext 0, ⟨[(4, .top), (5, .int .i64 (acc + sumU k (p.vols.drop i)))], []⟩)
  | 0, i, acc, hm, h1, h2 => by
    rw [h.loop, List.drop_eq_nil_of_le (show p.vols.length ≤ i by omega)]
    repeat (conv => lhs; whnf; arg 2; tactic => first | exact g1 | exact g2)
    rw [show acc + sumU k [] = acc by simp [sumU]]
    rfl
  | m + 1, i, acc, hm, h1, h2 => by
    obtain ⟨v, hv⟩ := get_some (xs := p.vols) (i := i) (by omega)
    have hvs := hn v (List.mem_of_getElem? hv)
    have hc := cnt_range v.blocks k
    rw [h.loop, drop_cons hv]
    repeat (conv => lhs; whnf; arg 2; tactic => first | exact g1 | exact map_get hv | exact ev_l3Uses h v (by omega) _ | exact g2)
    conv => lhs; whnf
    rw [wrap_succ (by omega), wrap_id (n := acc + cnt v.blocks k) (by omega) (by omega), sumU_loop p hn hl k m (i + 1) (acc + cnt v.blocks k) (by omega) (by omega) (by omega)]
    rw [sumU, Int.add_assoc]
theorem ev_l11Uses (p : PoolM) (hn : ∀ v ∈ p.vols, v.blocks.length ≤ 6) (hl : p.vols.length ≤ 4) (k : Int) : W f_spec_l11Uses [poolA p, .int .i64 k] [] = some (.int .i64 (sumU k p.vols), []) := by
  have e := sumU_loop h p hn hl k p.vols.length 0 0 (by omega) (by omega) (by omega)
  rw [nc0, List.drop_zero, Int.zero_add] at e
  rw [h.call]
  repeat (conv => lhs; whnf; arg 2; tactic => first | exact g1 | exact e | exact congrArg not e | exact g2)
  rfl
theorem dup_loop (xs : List SlotM) (hl : xs.length < 4611686018427387904) (i : Nat) (x : SlotM) (hx : xs[i]? = some x) : ∀ m k, k + m = i → L (norm 0 cf115.live) (exitN 0 cf115.out (evCW W L G cf115 0 c115l0)) ⟨[(0, .sl .br (xs.map slotD)), (3, .int .i64 (i : Nat)), (4, .int .i64 (k : Nat))], []⟩ =
    some (if !(seq x.text noText) && ((xs.take i).drop k).any (fun y => seq y.text x.text) then (.ret, ⟨[(0, .sl .br (xs.map slotD)), (2, .bool false), (3, .int .i64 (i : Nat))], []⟩) else (.ext 2, ⟨[(0, .sl .br (xs.map slotD)), (2, .top), (3, .int .i64 (i : Nat))], []⟩))
  | 0, k, hm => by
    rw [h.loop, List.drop_eq_nil_of_le (by rw [List.length_take]; omega)]
    simp only [List.any_nil, Bool.and_false]
    repeat (conv => lhs; whnf; arg 2; tactic => first | exact g1 | exact g2)
    rfl
  | m + 1, k, hm => by
    have hil := lt_of_get hx
    obtain ⟨y, hy⟩ := get_some (xs := xs) (i := k) (by omega)
    have hyt : (xs.take i)[k]? = some y := by rw [List.getElem?_take, if_pos (by omega)]; exact hy
    rw [h.loop, drop_cons hyt, List.any_cons]
    cases hq : seq x.text noText
    · rw [seq_comm y.text x.text]
      cases he : seq x.text y.text
      · have ih := dup_loop xs hl i x hx m (k + 1) (by omega)
        rw [hq] at ih
        repeat (conv => lhs; whnf; arg 2; tactic => first | exact g1 | exact map_get hx | exact hq | exact map_get hy | exact he | exact congrArg not hq | exact congrArg not he | exact g2)
        conv => lhs; whnf
        rw [wrap_succ (by omega), ih]
        rfl
      · repeat (conv => lhs; whnf; arg 2; tactic => first | exact g1 | exact map_get hx | exact hq | exact map_get hy | exact he | exact congrArg not hq | exact congrArg not he | exact g2)
        rfl
    · have ih := dup_loop xs hl i x hx m (k + 1) (by omega)
      rw [hq] at ih
      repeat (conv => lhs; whnf; arg 2; tactic => first | exact g1 | exact map_get hx | exact hq | exact congrArg not hq | exact g2)
      conv => lhs; whnf
      rw [wrap_succ (by omega), ih]
      rfl
theorem sstoreOk_loop (xs : List SlotM) (hs : StoreSz xs) : ∀ (m i : Nat) (a4 : AV), (a4 = .un ∨ a4 = .top) → i + m = xs.length → ∃ b3, L (norm 0 cf115.live) (exitN 0 cf115.out (evCW W L G cf115 0 c115l1)) ⟨[(0, .sl .br (xs.map slotD)), (3, .int .i64 (i : Nat)), (4, a4)], []⟩ =
    some (if storeOkL xs m i then (.ext 0, ⟨[(0, .sl .br (xs.map slotD)), (2, .top), (3, .int .i64 b3)], []⟩) else (.ret, ⟨[(0, .sl .br (xs.map slotD)), (2, .bool false), (3, .int .i64 b3)], []⟩))
  | 0, i, a4, ha, hm => by
    refine ⟨(i : Nat), ?_⟩
    rw [h.loop]
    rcases ha with rfl | rfl
    · repeat (conv => lhs; whnf; arg 2; tactic => first | exact g1 | exact g2)
      rfl
    · repeat (conv => lhs; whnf; arg 2; tactic => first | exact g1 | exact g2)
      rfl
  | m + 1, i, a4, ha, hm => by
    obtain ⟨x, hx⟩ := get_some (xs := xs) (i := i) (by omega)
    have hxs := hs.2 x (List.mem_of_getElem? hx)
    have hl := hs.1
    have hd := dup_loop h xs hl i x hx i 0 (by omega)
    rw [nc0, List.drop_zero] at hd
    have hc : (!((x.uses == 0) == seq x.text noText)) = !(seq x.text noText == (x.uses == 0)) := by rw [Bool.beq_comm]
    have hf : decide (fndI (fnd (fun y : SlotM => seq y.text x.text) (xs.take i) 0) ≥ 0) = (xs.take i).any (fun y => seq y.text x.text) := by rw [fndI_nn, fnd_any]
    obtain ⟨b3, ih⟩ := sstoreOk_loop xs hs m (i + 1) .top (.inr rfl) (by omega)
    rw [h.loop]
    simp only [storeOkL, hx, slotOk, hf]
    cases ht : textOk x.text
    · refine ⟨(i : Nat), ?_⟩
      rcases ha with rfl | rfl
      all_goals
       repeat (conv => lhs; whnf; arg 2; tactic => first | exact g1 | exact map_get hx | exact ev_sTextOk h _ hxs | exact ht | exact congrArg not ht | exact g2)
       rfl
    · cases hu : inR x.uses 0 99
      · refine ⟨(i : Nat), ?_⟩
        rcases ha with rfl | rfl
        all_goals
         repeat (conv => lhs; whnf; arg 2; tactic => first | exact g1 | exact map_get hx | exact ev_sTextOk h _ hxs | exact ht | exact ev_l6In h _ _ _ | exact hu | exact congrArg not ht | exact congrArg not hu | exact g2)
         rfl
      · cases hz : !(seq x.text noText == (x.uses == 0))
        · rw [hz] at hc
          cases hy : !(seq x.text noText) && (xs.take i).any (fun y => seq y.text x.text)
          · refine ⟨b3, ?_⟩
            rw [hy] at hd
            rcases ha with rfl | rfl
            all_goals
             repeat (conv => lhs; whnf; arg 2; tactic => first | exact g1 | exact map_get hx | exact ev_sTextOk h _ hxs | exact ht | exact ev_l6In h _ _ _ | exact hu | exact hc | exact hd | exact congrArg not ht | exact congrArg not hu | exact congrArg not hc | exact congrArg not hd | exact g2)
             conv => lhs; whnf
             rw [wrap_succ (by omega), ih]
             rfl
          · refine ⟨(i : Nat), ?_⟩
            rw [hy] at hd
            rcases ha with rfl | rfl
            all_goals
             repeat (conv => lhs; whnf; arg 2; tactic => first | exact g1 | exact map_get hx | exact ev_sTextOk h _ hxs | exact ht | exact ev_l6In h _ _ _ | exact hu | exact hc | exact hd | exact congrArg not ht | exact congrArg not hu | exact congrArg not hc | exact congrArg not hd | exact g2)
             rfl
        · rw [hz] at hc
          refine ⟨(i : Nat), ?_⟩
          rcases ha with rfl | rfl
          all_goals
           repeat (conv => lhs; whnf; arg 2; tactic => first | exact g1 | exact map_get hx | exact ev_sTextOk h _ hxs | exact ht | exact ev_l6In h _ _ _ | exact hu | exact hc | exact congrArg not ht | exact congrArg not hu | exact congrArg not hc | exact g2)
           rfl
theorem ev_sStoreOk (xs : List SlotM) (hs : StoreSz xs) : W f_spec_StoreOk [.sl .br (xs.map slotD)] [] = some (.bool (storeOk xs), []) := by
  obtain ⟨b3, e⟩ := sstoreOk_loop h xs hs xs.length 0 .un (.inl rfl) (by omega)
  rw [nc0] at e
  unfold storeOk
  have hi : (((xs.map slotD).length : Nat) : Int) = xs.length := by rw [List.length_map]
  rw [h.call, ← hi]
  cases hk : storeOkL xs xs.length 0
  · rw [hk] at e
    repeat (conv => lhs; whnf; arg 2; tactic => first | exact g1 | exact e | exact congrArg not e | exact g2)
    rfl
  · rw [hk] at e
    repeat (conv => lhs; whnf; arg 2; tactic => first | exact g1 | exact e | exact congrArg not e | exact g2)
    rfl
theorem svols_loop (p : PoolM) (hs : VolsSz p.vols) : ∀ m i, i + m = p.vols.length → ∃ b3, L (norm 0 cf66.live) (exitN 0 cf66.out (evCW W L G cf66 0 c66l1)) ⟨[(1, .ptr 0 0), (3, .int .i64 (i : Nat)), (4, .un)], [boxP p]⟩ =
    some (if volsOkL p.vols m i then (.ext 0, ⟨[(1, .ptr 0 0), (2, .top)], [boxP p]⟩) else (.ret, ⟨[(1, .ptr 0 0), (2, b3)], [boxP p]⟩)) ∧ b3 = .bool false
  | 0, i, hm => by
    refine ⟨_, ?_, rfl⟩
    rw [h.loop]
    repeat (conv => lhs; whnf; arg 2; tactic => first | exact g1 | exact g2)
    rfl
  | m + 1, i, hm => by
    obtain ⟨v, hv⟩ := get_some (xs := p.vols) (i := i) (by omega)
    have hvs := hs.2 v (List.mem_of_getElem? hv)
    have hl := hs.1
    obtain ⟨_, ih, rfl⟩ := svols_loop p hs m (i + 1) (by omega)
    refine ⟨_, ?_, rfl⟩
    rw [h.loop]
    simp only [volsOkL, hv]
    cases hvo : volOk v
    · repeat (conv => lhs; whnf; arg 2; tactic => first | exact g1 | exact map_get hv | exact ev_sVolOk h v hvs | exact hvo | exact congrArg not hvo | exact g2)
      rfl
    · cases i with
      | zero =>
        repeat (conv => lhs; whnf; arg 2; tactic => first | exact g1 | exact map_get hv | exact ev_sVolOk h v hvs | exact hvo | exact congrArg not hvo | exact g2)
        conv => lhs; whnf
        rw [wrap_succ (by omega), ih]
        rfl
      | succ j =>
        obtain ⟨u, hu⟩ := get_some (xs := p.vols) (i := j) (by omega)
        simp only [hu]
        cases hg : geq u.name v.name
        · repeat (conv => lhs; whnf; arg 2; tactic => first | exact g1 | exact map_get hv | exact ev_sVolOk h v hvs | exact hvo | exact wrap_pred (by omega) | exact map_get hu | exact hg | exact congrArg not hvo | exact congrArg not hg | exact g2)
          conv => lhs; whnf
          rw [wrap_succ (by omega), ih]
          rfl
        · repeat (conv => lhs; whnf; arg 2; tactic => first | exact g1 | exact map_get hv | exact ev_sVolOk h v hvs | exact hvo | exact wrap_pred (by omega) | exact map_get hu | exact hg | exact congrArg not hvo | exact congrArg not hg | exact g2)
          rfl
theorem splaces_loop (p : PoolM) (h8 : p.slots.length = 8) (hn : ∀ v ∈ p.vols, v.blocks.length ≤ 6) (hl : p.vols.length ≤ 4) : ∀ (m i : Nat), i + m = 8 → L (norm 0 cf66.live) (exitN 0 cf66.out (evCW W L G cf66 0 c66l0)) ⟨[(1, .ptr 0 0), (3, .top), (4, .int .i64 ((i : Nat) + 1))], [boxP p]⟩ =
    some (if usesOkL p.slots p.vols m i then (.ext 2, ⟨[(1, .ptr 0 0), (2, .top)], [boxP p]⟩) else (.ret, ⟨[(1, .ptr 0 0), (2, .bool false)], [boxP p]⟩))
  | 0, i, hm => by
    rw [h.loop]
    repeat (conv => lhs; whnf; arg 2; tactic => first | exact g1 | exact g2)
    rfl
  | m + 1, i, hm => by
    obtain ⟨x, hx⟩ := get_some (xs := p.slots) (i := i) (by omega)
    have hu0 := ev_l11Uses h p hn hl ((i : Int) + 1)
    have hc : (x.uses != sumU ((i : Int) + 1) p.vols) = !(sumU ((i : Int) + 1) p.vols == x.uses) := by
      rw [show (x.uses != sumU ((i : Int) + 1) p.vols) = !(x.uses == sumU ((i : Int) + 1) p.vols) from rfl, Bool.beq_comm]
    have hw := wrap_pred (j := i) (by omega)
    have hw' : IntKind.i64.wrap ((i : Int) + 1 - 1) = (i : Int) := hw
    rw [h.loop]
    simp only [usesOkL, hx]
    cases hu : (sumU ((i : Int) + 1) p.vols == x.uses)
    · rw [hu] at hc
      repeat (conv => lhs; whnf; arg 2; tactic => first | exact g1 | exact hw' | exact map_get hx | exact hu0 | exact hc | exact congrArg not hw' | exact congrArg not hu0 | exact congrArg not hc | exact g2)
      rfl
    · rw [hu] at hc
      have ih := splaces_loop p h8 hn hl m (i + 1) (by omega)
      repeat (conv => lhs; whnf; arg 2; tactic => first | exact g1 | exact hw' | exact map_get hx | exact hu0 | exact hc | exact congrArg not hw' | exact congrArg not hu0 | exact congrArg not hc | exact g2)
      conv => lhs; whnf
      rw [wrap_id (n := (i : Int) + 1 + 1) (by omega) (by omega)]
      exact ih
theorem ev_sPoolOk (p : PoolM) (hs : PoolSz p) : W f_spec_PoolOk [poolA p] [] = some (.bool (poolOk p), []) := by
  unfold poolOk
  obtain ⟨_, e1, rfl⟩ := svols_loop h p hs.v p.vols.length 0 (by omega)
  rw [nc0] at e1
  rw [h.call]
  cases hso : storeOk p.slots
  · repeat (conv => lhs; whnf; arg 2; tactic => first | exact g1 | exact ev_sStoreOk h _ hs.s | exact hso | exact congrArg not hso | exact g2)
    rfl
  · cases hl : decide ((p.vols.length : Int) > 4)
    · have hlen : decide (((p.vols.map volD).length : Int) > 4) = false := by rw [List.length_map]; exact hl
      cases hv : volsOkL p.vols p.vols.length 0
      · rw [hv] at e1
        repeat (conv => lhs; whnf; arg 2; tactic => first | exact g1 | exact ev_sStoreOk h _ hs.s | exact hso | exact hlen | exact e1 | exact congrArg not hso | exact congrArg not hlen | exact congrArg not e1 | exact g2)
        rfl
      · rw [hv] at e1
        simp only [decide_eq_false_iff_not] at hl
        have hso' := hso
        simp only [storeOk, Bool.and_eq_true, beq_iff_eq] at hso'
        have e2 := splaces_loop h p (by omega) (fun v hm => by
          obtain ⟨j, hj⟩ := List.getElem?_of_mem hm
          exact (volOk_len (volsOkL_len hv j (by omega) (by have := lt_of_get hj; omega) v hj)).2) (by omega) 8 0 (by omega)
        rw [nc0, Int.zero_add] at e2
        cases hu : usesOkL p.slots p.vols 8 0
        · rw [hu] at e2
          repeat (conv => lhs; whnf; arg 2; tactic => first | exact g1 | exact ev_sStoreOk h _ hs.s | exact hso | exact hlen | exact e1 | exact e2 | exact congrArg not hso | exact congrArg not hlen | exact congrArg not e1 | exact congrArg not e2 | exact g2)
          rfl
        · rw [hu] at e2
          repeat (conv => lhs; whnf; arg 2; tactic => first | exact g1 | exact ev_sStoreOk h _ hs.s | exact hso | exact hlen | exact e1 | exact e2 | exact congrArg not hso | exact congrArg not hlen | exact congrArg not e1 | exact congrArg not e2 | exact g2)
          rfl
    · have hlen : decide (((p.vols.map volD).length : Int) > 4) = true := by rw [List.length_map]; exact hl
      repeat (conv => lhs; whnf; arg 2; tactic => first | exact g1 | exact ev_sStoreOk h _ hs.s | exact hso | exact hlen | exact congrArg not hso | exact congrArg not hlen | exact g2)
      rfl
end
end Go.Gn

namespace Go.Gn
open Go
set_option linter.unusedVariables false
structure SlotI (xs : List SlotM) (f : Int → Int) : Prop where
  len : xs.length = 8
  txt : ∀ x ∈ xs, textOk x.text = true
  use : ∀ (i : Nat) (x : SlotM), xs[i]? = some x → x.uses = f ((i : Int) + 1)
  pos : ∀ x ∈ xs, 0 ≤ x.uses
  emp : ∀ x ∈ xs, (x.text = noText ↔ x.uses = 0)
  dis : ∀ (i j : Nat) (x y : SlotM), xs[i]? = some x → xs[j]? = some y → x.text = y.text → x.text ≠ noText → i = j
theorem SlotI.congr {xs : List SlotM} {f g : Int → Int} (h : SlotI xs f) (e : ∀ k, 1 ≤ k → k ≤ 8 → f k = g k) : SlotI xs g := { h with
  use := fun i x hx => by
    rw [h.use i x hx]
    have := (List.getElem?_eq_some_iff.mp hx).1
    have h8 := h.len
    exact e _ (by omega) (by omega) }
theorem SlotI.set {xs : List SlotM} {f : Int → Int} (h : SlotI xs f) {j : Nat} (hj : j < 8) {y : SlotM} (ht : textOk y.text = true) (hp : 0 ≤ y.uses) (he : y.text = noText ↔ y.uses = 0)
    (hd : y.text ≠ noText → ∀ (i : Nat) (x : SlotM), xs[i]? = some x → x.text = y.text → i = j) : SlotI (xs.set j y) (fun k => if k = (j : Int) + 1 then y.uses else f k) := by
  have hl := h.len
  have hm : ∀ x, x ∈ xs.set j y → x ∈ xs ∨ x = y := fun x hx => List.mem_or_eq_of_mem_set hx
  have hg : ∀ i x, (xs.set j y)[i]? = some x → (i = j ∧ x = y) ∨ (i ≠ j ∧ xs[i]? = some x) := by
    intro i x hx
    by_cases e : j = i
    · subst e
      rw [get_set_self (by omega)] at hx
      cases hx
      exact .inl ⟨rfl, rfl⟩
    · rw [List.getElem?_set_ne e] at hx
      exact .inr ⟨fun e2 => e e2.symm, hx⟩
  refine ⟨by simp [hl], fun x hx => ?_, fun i x hx => ?_, fun x hx => ?_, fun x hx => ?_, fun i k x z hx hz e hne => ?_⟩
  · rcases hm x hx with h1 | h1
    · exact h.txt x h1
    · rw [h1]; exact ht
  · rcases hg i x hx with ⟨h1, h2⟩ | ⟨h1, h2⟩
    · rw [h1, h2]; simp
    · rw [h.use i x h2]
      have : (i : Int) + 1 ≠ (j : Int) + 1 := by omega
      simp [this]
  · rcases hm x hx with h1 | h1
    · exact h.pos x h1
    · rw [h1]; exact hp
  · rcases hm x hx with h1 | h1
    · exact h.emp x h1
    · rw [h1]; exact he
  · rcases hg i x hx with ⟨h1, h2⟩ | ⟨h1, h2⟩ <;> rcases hg k z hz with ⟨h3, h4⟩ | ⟨h3, h4⟩
    · rw [h1, h3]
    · rw [h2] at e hne
      rw [h1]; exact (hd hne k z h4 e.symm).symm
    · rw [h4] at e
      rw [h3]; exact hd (fun e2 => hne (e.trans e2)) i x h2 e
    · exact h.dis i k x z h2 h4 e hne
theorem textOk_no : textOk noText = true := by decide +kernel
theorem slotOk_iff (pre : List SlotM) (x : SlotM) : slotOk pre x = true ↔ textOk x.text = true ∧ (0 ≤ x.uses ∧ x.uses ≤ 99) ∧ (x.text = noText ↔ x.uses = 0) ∧ (x.text ≠ noText → ∀ y ∈ pre, y.text ≠ x.text) := by
  rw [slotOk, fndI_nn]
  simp only [Bool.and_eq_true, inR, decide_eq_true_eq, Bool.not_not, seq_eq]
  have e1 : (decide (x.text = noText) == (x.uses == 0)) = true ↔ (x.text = noText ↔ x.uses = 0) := by
    by_cases h1 : x.text = noText <;> by_cases h2 : x.uses = 0 <;> simp [h1, h2]
  have e2 : (!(!decide (x.text = noText) && (fnd (fun y : SlotM => decide (y.text = x.text)) pre 0).isSome)) = true ↔ (x.text ≠ noText → ∀ y ∈ pre, y.text ≠ x.text) := by
    cases hf : fnd (fun y : SlotM => decide (y.text = x.text)) pre 0 with
    | none =>
      have := fnd_none.mp hf
      simp only [Option.isSome_none, Bool.and_false, Bool.not_false, true_iff]
      intro _ y hy
      simpa using this y hy
    | some i =>
      obtain ⟨_, _, y, hy, hp⟩ := fnd_lt hf
      simp only [Option.isSome_some, Bool.and_true, Bool.not_not, decide_eq_true_eq]
      constructor
      · intro h h2; exact absurd h h2
      · intro h
        by_cases h2 : x.text = noText
        · exact h2
        · exact absurd (by simpa using hp) (h h2 y (List.mem_of_getElem? hy))
  rw [e1, e2]
theorem storeOkL_iff (xs : List SlotM) : ∀ m i, i + m = xs.length → (storeOkL xs m i = true ↔ ∀ j x, i ≤ j → xs[j]? = some x → slotOk (xs.take j) x = true)
  | 0, i, hi => by
    rw [storeOkL]
    simp only [true_iff]
    intro j x hj hx
    have := (List.getElem?_eq_some_iff.mp hx).1
    omega
  | m + 1, i, hi => by
    obtain ⟨w, hw⟩ := get_some (xs := xs) (i := i) (by omega)
    have ih := storeOkL_iff xs m (i + 1) (by omega)
    rw [storeOkL, hw]
    simp only [Bool.and_eq_true, ih]
    constructor
    · rintro ⟨h1, h2⟩ j x hj hx
      by_cases e : j = i
      · subst e; rw [hw] at hx; cases hx; exact h1
      · exact h2 j x (by omega) hx
    · intro h
      exact ⟨h i w (by omega) hw, fun j x hj hx => h j x (by omega) hx⟩
theorem usesOkL_iff (xs : List SlotM) (vs : List VolM) : ∀ m i, i + m = xs.length → (usesOkL xs vs m i = true ↔ ∀ j x, i ≤ j → xs[j]? = some x → x.uses = sumU ((j : Int) + 1) vs)
  | 0, i, hi => by
    rw [usesOkL]
    simp only [true_iff]
    intro j x hj hx
    have := (List.getElem?_eq_some_iff.mp hx).1
    omega
  | m + 1, i, hi => by
    obtain ⟨w, hw⟩ := get_some (xs := xs) (i := i) (by omega)
    have ih := usesOkL_iff xs vs m (i + 1) (by omega)
    rw [usesOkL, hw]
    simp only [Bool.and_eq_true, ih, beq_iff_eq]
    constructor
    · rintro ⟨h1, h2⟩ j x hj hx
      by_cases e : j = i
      · subst e; rw [hw] at hx; cases hx; exact h1.symm
      · exact h2 j x (by omega) hx
    · intro h
      exact ⟨(h i w (by omega) hw).symm, fun j x hj hx => h j x (by omega) hx⟩
structure PoolP (p : PoolM) : Prop where
  s : SlotI p.slots (fun k => sumU k p.vols)
  v : ∀ v ∈ p.vols, volOk v = true
  o : SortV p.vols
theorem PoolP.nm {p : PoolM} (h : PoolP p) : NmV p.vols := fun v hv => volOk_nm (h.v v hv)
theorem PoolP.len {p : PoolM} (h : PoolP p) : p.vols.length ≤ 4 := sort_len4 h.o h.nm
theorem PoolP.sum {p : PoolM} (h : PoolP p) (k : Int) : 0 ≤ sumU k p.vols ∧ sumU k p.vols ≤ 24 := by
  have h1 := sumU_range k p.vols 6 (fun v hv => (volOk_len (h.v v hv)).2)
  have h2 := h.len
  omega
theorem poolOk_iff (p : PoolM) : poolOk p = true ↔ PoolP p := by
  rw [poolOk]
  simp only [Bool.and_eq_true, Bool.not_eq_true', decide_eq_false_iff_not, storeOk, beq_iff_eq]
  constructor
  · rintro ⟨⟨h1, h8⟩, h2, h3, h4⟩
    have h8' : p.slots.length = 8 := by omega
    have g1 := (storeOkL_iff p.slots _ 0 (by omega)).mp h1
    have g4 := (usesOkL_iff p.slots p.vols 8 0 (by omega)).mp h4
    have g3 := (vols_iff p.vols).mp h3
    have g5 : ∀ j x, p.slots[j]? = some x → textOk x.text = true ∧ (0 ≤ x.uses ∧ x.uses ≤ 99) ∧ (x.text = noText ↔ x.uses = 0) ∧ (x.text ≠ noText → ∀ y ∈ p.slots.take j, y.text ≠ x.text) :=
      fun j x hx => (slotOk_iff _ x).mp (g1 j x (by omega) hx)
    have g6 : ∀ x ∈ p.slots, ∃ j : Nat, p.slots[j]? = some x := fun x hx => List.getElem?_of_mem hx
    refine ⟨⟨h8', fun x hx => ?_, fun i x hx => g4 i x (by omega) hx, fun x hx => ?_, fun x hx => ?_, ?_⟩, g3.1, g3.2⟩
    · obtain ⟨j, hj⟩ := g6 x hx; exact (g5 j x hj).1
    · obtain ⟨j, hj⟩ := g6 x hx; exact (g5 j x hj).2.1.1
    · obtain ⟨j, hj⟩ := g6 x hx; exact (g5 j x hj).2.2.1
    · have key : ∀ (i j : Nat) (x y : SlotM), i < j → p.slots[i]? = some x → p.slots[j]? = some y → x.text = y.text → y.text ≠ noText → False := fun i j x y hij hx hy e hne => by
        refine (g5 j y hy).2.2.2 hne x ?_ e
        refine List.mem_of_getElem? (i := i) ?_
        rw [List.getElem?_take, if_pos hij]; exact hx
      intro i j x y hx hy e hne
      rcases Nat.lt_trichotomy i j with hij | hij | hij
      · exact (key i j x y hij hx hy e (fun e2 => hne (e.trans e2))).elim
      · exact hij
      · exact (key j i y x hij hy hx e.symm hne).elim
  · intro h
    have h8 := h.s.len
    refine ⟨⟨(storeOkL_iff p.slots _ 0 (by omega)).mpr fun j x _ hx => (slotOk_iff _ x).mpr ?_, by omega⟩, by have := h.len; omega, (vols_iff p.vols).mpr ⟨h.v, h.o⟩, (usesOkL_iff p.slots p.vols 8 0 (by omega)).mpr fun j x _ hx => h.s.use j x hx⟩
    have hm := List.mem_of_getElem? hx
    have hu := h.s.use j x hx
    have hb := h.sum ((j : Int) + 1)
    refine ⟨h.s.txt x hm, by omega, h.s.emp x hm, fun hne y hy e => ?_⟩
    obtain ⟨i, hi⟩ := List.getElem?_of_mem hy
    rw [List.getElem?_take] at hi
    split at hi
    · have := h.s.dis i j y x hi hx e (fun e2 => hne (e.symm.trans e2))
      omega
    · cases hi
theorem cnt_nil (k : Int) : cnt [] k = 0 := rfl
theorem cnt_mem {bs : List Int} {b : Int} (h : b ∈ bs) : 1 ≤ cnt bs b := by
  rw [cnt]
  have : 0 < (bs.filter fun c => c == b).length := List.length_pos_of_mem (List.mem_filter.mpr ⟨h, by simp⟩)
  omega
theorem cnt_set : ∀ {bs : List Int} {j : Nat} {o n k : Int}, bs[j]? = some o → cnt (bs.set j n) k = cnt bs k - (if o = k then 1 else 0) + (if n = k then 1 else 0)
  | [], j, o, n, k, h => by simp at h
  | b :: bs, 0, o, n, k, h => by
    simp at h; subst h
    rw [List.set_cons_zero, cnt_cons, cnt_cons]
    by_cases h1 : n = k <;> by_cases h2 : b = k <;> simp [h1, h2] <;> omega
  | b :: bs, j + 1, o, n, k, h => by
    rw [List.set_cons_succ, cnt_cons, cnt_cons, cnt_set (bs := bs) (j := j) (o := o) (by simpa using h)]
    omega
theorem cnt_rep (n : Nat) (k : Int) (hk : 1 ≤ k) : cnt (List.replicate n 0) k = 0 := by
  have : (List.replicate n (0 : Int)).filter (fun b => b == k) = [] := by
    refine List.filter_eq_nil_iff.mpr fun a ha => ?_
    have := List.eq_of_mem_replicate ha
    subst this
    simp; omega
  rw [cnt, this]; rfl
theorem sumU_set : ∀ {vs : List VolM} {i : Nat} {v w : VolM} {k : Int}, vs[i]? = some v → sumU k (vs.set i w) = sumU k vs - cnt v.blocks k + cnt w.blocks k
  | [], i, v, w, k, h => by simp at h
  | u :: us, 0, v, w, k, h => by
    simp at h; subst h
    rw [List.set_cons_zero, sumU, sumU]; omega
  | u :: us, i + 1, v, w, k, h => by
    rw [List.set_cons_succ, sumU, sumU, sumU_set (vs := us) (i := i) (v := v) (by simpa using h)]; omega
theorem sumU_ins (v : VolM) (k : Int) : ∀ (vs : List VolM), sumU k (insS v vs) = cnt v.blocks k + sumU k vs
  | [] => by simp [insS, sumU]
  | u :: us => by
    rw [insS]
    split
    · simp only [sumU]
    · rw [sumU, sumU_ins v k us, sumU]; omega
theorem sumU_del : ∀ {vs : List VolM} {i : Nat} {v : VolM} {k : Int}, vs[i]? = some v → sumU k (delV vs i) = sumU k vs - cnt v.blocks k
  | [], i, v, k, h => by simp at h
  | u :: us, 0, v, k, h => by
    simp at h; subst h
    simp [delV, sumU]; omega
  | u :: us, i + 1, v, k, h => by
    have ih := sumU_del (vs := us) (i := i) (v := v) (k := k) (by simpa using h)
    simp only [delV] at ih
    simp only [delV, List.take_succ_cons, List.drop_succ_cons, List.cons_append, sumU]
    omega
theorem sumU_ge {vs : List VolM} {i : Nat} {v : VolM} {k : Int} (h : vs[i]? = some v) : cnt v.blocks k ≤ sumU k vs := by
  induction vs generalizing i with
  | nil => simp at h
  | cons u us ih =>
    have h0 : ∀ ws : List VolM, 0 ≤ sumU k ws := fun ws => by
      induction ws with
      | nil => exact Int.le_refl _
      | cons w ws ih2 => rw [sumU]; have := (cnt_range w.blocks k).1; omega
    rw [sumU]
    cases i with
    | zero => simp at h; subst h; have := h0 us; omega
    | succ i => have := ih (i := i) (by simpa using h); have := (cnt_range u.blocks k).1; omega
theorem free_I {xs : List SlotM} {f : Int → Int} (h : SlotI xs f) {b : Int} (hb : 0 ≤ b ∧ b ≤ 8) (hf : 0 < b → 1 ≤ f b) : SlotI (freeM xs b) (fun k => f k - (if b = k then 1 else 0)) := by
  have hl := h.len
  rw [freeM]
  by_cases hb0 : b > 0
  · rw [if_pos hb0]
    obtain ⟨x, hx⟩ := get_some (xs := xs) (i := (b - 1).toNat) (by omega)
    rw [hx]
    have hu := h.use _ x hx
    have hm := List.mem_of_getElem? hx
    have eb : (((b - 1).toNat : Nat) : Int) + 1 = b := by omega
    rw [eb] at hu
    have hfb := hf hb0
    have hd : x.dec.uses = x.uses - 1 := by rw [SlotM.dec]; split <;> simp <;> omega
    show SlotI (xs.set (b - 1).toNat x.dec) _
    refine (h.set (j := (b - 1).toNat) (by omega) (y := x.dec) ?_ (by omega) ?_ ?_).congr fun k _ _ => ?_
    · rw [SlotM.dec]; split
      · exact textOk_no
      · exact h.txt x hm
    · rw [SlotM.dec]; split
      · simp [noText]
      · rename_i hne
        have := h.emp x hm
        constructor
        · intro e; have := this.mp e; omega
        · intro e; exact absurd e hne
    · rw [SlotM.dec]; split
      · intro e; exact absurd rfl e
      · intro hne i z hz e
        exact (h.dis (b - 1).toNat i x z hx hz e.symm hne).symm
    · simp only [eb, hd]
      by_cases hk : k = b
      · subst hk; simp; omega
      · have : ¬ b = k := fun e => hk e.symm
        simp [hk, this]
  · rw [if_neg hb0]
    refine h.congr fun k hk _ => ?_
    have : b ≠ k := by omega
    simp [this]
theorem inc_I {xs : List SlotM} {f : Int → Int} (h : SlotI xs f) {b : Int} (hb : 0 ≤ b ∧ b ≤ 8) (hf : 0 < b → 1 ≤ f b) : SlotI (incM xs b) (fun k => f k + (if b = k then 1 else 0)) := by
  have hl := h.len
  rw [incM]
  by_cases hb0 : b > 0
  · rw [if_pos hb0]
    obtain ⟨x, hx⟩ := get_some (xs := xs) (i := (b - 1).toNat) (by omega)
    rw [hx]
    have hu := h.use _ x hx
    have hm := List.mem_of_getElem? hx
    have eb : (((b - 1).toNat : Nat) : Int) + 1 = b := by omega
    rw [eb] at hu
    have hfb := hf hb0
    have he := h.emp x hm
    show SlotI (xs.set (b - 1).toNat x.inc) _
    refine (h.set (j := (b - 1).toNat) (by omega) (y := x.inc) (h.txt x hm) (by simp only [SlotM.inc]; omega) ?_ ?_).congr fun k _ _ => ?_
    · simp only [SlotM.inc]
      constructor
      · intro e; have := he.mp e; omega
      · intro e; omega
    · simp only [SlotM.inc]
      intro hne i z hz e
      exact (h.dis (b - 1).toNat i x z hx hz e.symm hne).symm
    · simp only [eb, SlotM.inc]
      by_cases hk : k = b
      · subst hk; simp; omega
      · have : ¬ b = k := fun e => hk e.symm
        simp [hk, this]
  · rw [if_neg hb0]
    refine h.congr fun k hk _ => ?_
    have : b ≠ k := by omega
    simp [this]
theorem incL_I : ∀ (bs : List Int) {xs : List SlotM} {f : Int → Int}, SlotI xs f → (∀ b ∈ bs, (0 ≤ b ∧ b ≤ 8) ∧ (0 < b → 1 ≤ f b)) → SlotI (incL xs bs) (fun k => f k + cnt bs k)
  | [], xs, f, h, _ => h.congr fun k _ _ => by rw [cnt_nil]; omega
  | b :: bs, xs, f, h, hb => by
    rw [incL]
    have h1 := inc_I h (hb b (by simp)).1 (hb b (by simp)).2
    refine (incL_I bs h1 (fun c hc => ⟨(hb c (by simp [hc])).1, fun h0 => ?_⟩)).congr fun k _ _ => ?_
    · have := (hb c (by simp [hc])).2 h0
      split <;> omega
    · rw [cnt_cons]; simp only [beq_iff_eq]; omega
theorem freeL_I : ∀ (bs : List Int) {xs : List SlotM} {f : Int → Int}, SlotI xs f → (∀ b ∈ bs, 0 ≤ b ∧ b ≤ 8) → (∀ k, 1 ≤ k → cnt bs k ≤ f k) → SlotI (freeL xs bs) (fun k => f k - cnt bs k)
  | [], xs, f, h, _, _ => h.congr fun k _ _ => by rw [cnt_nil]; omega
  | b :: bs, xs, f, h, hb, hc => by
    rw [freeL]
    have h1 := free_I h (hb b (by simp)) (fun h0 => by
      have := hc b (by omega)
      have := cnt_mem (bs := b :: bs) (b := b) (by simp)
      omega)
    refine (freeL_I bs h1 (fun c hc => hb c (by simp [hc])) fun k hk => ?_).congr fun k _ _ => ?_
    · have := hc k hk
      rw [cnt_cons] at this
      simp only [beq_iff_eq] at this
      omega
    · rw [cnt_cons]; simp only [beq_iff_eq]; omega
end Go.Gn

