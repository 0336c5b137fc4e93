/- Part 3 of a proof: an evaluator of the program, proved sound, and what it answers. -/
import Derived.Test.YtkgpnfeabojhcaaGreatA2
set_option linter.all false
namespace Go.Gn
open Go
theorem RepN.congr {imm : Nat → Prop} {w : World} {m m' : Meta} {j : Nat} {d : D} {v : Value} (h : RepN imm w m j d v) (hn : m'.nest j = m.nest j) : RepN imm w m' j d v := by
  unfold RepN at h ⊢
  rw [hn]; exact h
theorem scrub_rep {S : Nat → Prop} {w : World} {d : D} {v : Value} (h : RepD S w d v) : RepD S w d.scrub v := by
  cases d with
  | sl xs => exact .top _ h.one
  | _ => exact h
theorem RepRow.set {imm : Nat → Prop} {w w' : World} {m m' : Meta} {sz k k' c0 : Nat} {xs : List (List D)} (h : RepRow imm w m sz k c0 xs) {b : Nat} {vs vs' : Array Value} {e : TypeId} (hb : m.blk = some b) (hh : w.heap[b]? = some (.cells vs e (0, 0)))
    {j : Nat} {el el' : List D} (hj : xs[j]? = some el) (hel : el'.length = sz) (hh' : w'.heap[b]? = some (.cells vs' e (0, 0))) (hsz : vs'.size = vs.size) (hother : ∀ i, ¬ (j * sz ≤ i ∧ i < j * sz + sz) → vs'[i]? = vs[i]?)
    (hm : m'.blk = m.blk ∧ m'.sz = m.sz ∧ m'.len = m.len ∧ m'.cap = m.cap) (hk' : k' ≤ xs.length ∧ (c0 < sz → ∀ j, k' ≤ j → m'.nest j = none)) (hnest : ∀ q, q ≠ j → (q < k' ↔ q < k) ∧ (q < k → m'.nest q = m.nest q))
    (hnew : ∀ i d, el'[i]? = some d → ∃ u, vs'[j * sz + i]? = some u ∧ (if j < k' ∧ i = c0 then RepN imm w' m' j d u else RepD imm w' d u)) (hk : Keep imm w w') (hn : ∀ q b, q ≠ j → q < k → m.nest q = some b → w'.heap[b]? = w.heap[b]?) : RepRow imm w' m' sz k' c0 (xs.set j el') := by
  obtain ⟨h1, h2, h3, h4, h5, h6, h7⟩ := h
  obtain ⟨m1, m2, m3, m4⟩ := hm
  refine ⟨m2.trans h1, by rw [m3]; simpa using h2, by rw [m3, m4]; exact h3, by simpa using hk', by rw [m1, m4]; exact h5, fun x hx => ?_, fun b' hb' => ?_⟩
  · obtain ⟨q, hq⟩ := List.getElem?_of_mem hx
    rw [List.getElem?_set] at hq
    split at hq
    · split at hq
      · cases hq; exact hel
      · cases hq
    · exact h6 x (List.mem_of_getElem? hq)
  · rw [m1, hb] at hb'; cases hb'
    obtain ⟨vs1, e1, hh1, hsz1, hr⟩ := h7 b hb
    rw [hh] at hh1; cases hh1
    refine ⟨vs', e, hh', by rw [hsz, m4]; exact hsz1, fun q x i d hq hi => ?_⟩
    rw [List.getElem?_set] at hq
    split at hq
    · rename_i hqj
      subst hqj
      split at hq
      · cases hq; exact hnew i d hi
      · cases hq
    · rename_i hqj
      obtain ⟨v, hv, hrep⟩ := hr q x i d hq hi
      have hil : i < sz := by rw [← h6 x (List.mem_of_getElem? hq)]; exact (List.getElem?_eq_some_iff.1 hi).1
      refine ⟨v, ?_, ?_⟩
      · rw [hother, hv]
        rintro ⟨h8, h9⟩
        rcases Nat.lt_or_gt_of_ne hqj with h | h
        · have : (j + 1) * sz ≤ q * sz := Nat.mul_le_mul_right _ h
          rw [Nat.add_mul] at this; omega
        · have : (q + 1) * sz ≤ j * sz := Nat.mul_le_mul_right _ h
          rw [Nat.add_mul] at this; omega
      · obtain ⟨hn1, hn2⟩ := hnest q (Ne.symm hqj)
        split at hrep
        · rename_i hc
          rw [if_pos ⟨hn1.2 hc.1, hc.2⟩]
          exact (hrep.mono hk (fun _ h => h) (fun b hb => hn q b (Ne.symm hqj) hc.1 hb)).congr (hn2 hc.1)
        · rename_i hc
          rw [if_neg (fun h => hc ⟨hn1.1 h.1, h.2⟩)]
          exact hrep.mono hk (fun _ h => h)
theorem splice_length {α : Type} {cs vs : List α} {off : Nat} (h : off + vs.length ≤ cs.length) : (splice cs off vs).length = cs.length := by
  simp [splice]; omega
theorem splice_get {α : Type} {cs vs : List α} {off : Nat} (h : off + vs.length ≤ cs.length) (i : Nat) : (splice cs off vs)[i]? = if off ≤ i ∧ i < off + vs.length then vs[i - off]? else cs[i]? := by
  simp only [splice, List.getElem?_append, List.length_append, List.length_take, List.getElem?_take, List.getElem?_drop]
  have : min off cs.length = off := by omega
  simp only [this]
  by_cases h1 : i < off
  · simp [h1, show i < off + vs.length by omega, show ¬ off ≤ i by omega]
  · by_cases h2 : i < off + vs.length
    · simp [h1, h2, show off ≤ i by omega]
    · simp [h1, h2]
      congr 1; omega
theorem cells_ok {v : AV} (h : v.cells.all AV.one = true) : v.okc = true := by
  cases v <;> first | rfl | (simp [AV.cells, AV.one] at h; done)
theorem toD_one {v : AV} {d : D} (h : v.toD = some d) : v.one = true := by
  cases v <;> first | rfl | (simp [AV.toD] at h; done)
theorem freezeL_one : ∀ {cs : List AV} {os : List Obj} {r : List D × List Obj}, freezeL cs os = some r → cs.all AV.one = true
  | [], _, _, _ => rfl
  | x :: cs, os, r, h => by
    unfold freezeL at h
    split at h
    · simp at h
    · rename_i d os1 hd
      split at h
      · simp at h
      · rename_i ds2 os2 hd2
        simp only [List.all_cons, Bool.and_eq_true]
        refine ⟨?_, freezeL_one hd2⟩
        cases x
        case hw => rfl
        all_goals
          simp only [Gn.freeze, Option.map_eq_some_iff] at hd
          obtain ⟨d', hd, _⟩ := hd
          exact toD_one hd
theorem getD_lt {os : List Obj} {q : Nat} {x : Obj} (h : os.getD q .dead = x) (hx : x ≠ .dead) : q < os.length := by
  rcases Nat.lt_or_ge q os.length with hl | hl
  · exact hl
  · rw [List.getD_eq_getElem?_getD, List.getElem?_eq_none hl] at h; simp at h; exact absurd h.symm hx
theorem own_box {μ : Mu} {os : List Obj} {q : Nat} {cs cs' : List AV} (h : os.getD q .dead = .box cs) : ∀ l b, Owns μ (os.set q (.box cs')) q l b → Owns μ os q l b := by
  rintro l b ⟨m, hm, ho⟩
  refine ⟨m, hm, ?_⟩
  rw [getD_set, if_pos ⟨rfl, getD_lt h (by simp)⟩] at ho
  rw [h]
  cases l <;> exact ho
theorem own_row {μ : Mu} {os : List Obj} {q sz k c0 sz' c0' : Nat} {xs xs' : List (List D)} (h : os.getD q .dead = .row sz k c0 xs) : ∀ l b, Owns μ (os.set q (.row sz' k c0' xs')) q l b → Owns μ os q l b := by
  rintro l b ⟨m, hm, ho⟩
  refine ⟨m, hm, ?_⟩
  rw [getD_set, if_pos ⟨rfl, getD_lt h (by simp)⟩] at ho
  rw [h]
  cases l <;> exact ho
theorem RepRow.c0 {imm : Nat → Prop} {w : World} {m : Meta} {sz k c0 c1 : Nat} {xs : List (List D)} (h : RepRow imm w m sz k c0 xs) (hc : c0 < sz) (he : c0 = c1 ∨ k = 0) : RepRow imm w m sz k c1 xs := by
  rcases he with rfl | rfl
  · exact h
  · obtain ⟨r1, r2, r3, r4, r5, r6, r7⟩ := h
    refine ⟨r1, r2, r3, ⟨r4.1, fun _ => r4.2 hc⟩, r5, r6, fun b hb => ?_⟩
    obtain ⟨vs, e, hh, hv, hr⟩ := r7 b hb
    refine ⟨vs, e, hh, hv, fun j el i d h1 h2 => ?_⟩
    obtain ⟨v, h3, h4⟩ := hr j el i d h1 h2
    rw [if_neg (by omega)] at h4
    exact ⟨v, h3, by rw [if_neg (by omega)]; exact h4⟩
theorem hwIx_get : ∀ {vs : List AV} {p o : Nat}, hwIx vs = some (p, o) → vs[p]? = some (.hw o)
  | [], p, o, h => by simp [hwIx] at h
  | v :: vs, p, o, h => by
    have key : ∀ p' o', hwIx vs = some (p', o') → vs[p']? = some (.hw o') := fun p' o' h => hwIx_get h
    cases v
    case hw o2 =>
      simp only [hwIx, Option.some.injEq, Prod.mk.injEq] at h
      obtain ⟨rfl, rfl⟩ := h; rfl
    all_goals
      simp only [hwIx] at h
      split at h
      · rename_i p' o' h'
        simp only [Option.some.injEq, Prod.mk.injEq] at h
        obtain ⟨rfl, rfl⟩ := h
        simpa using key _ _ h'
      · cases h
section
variable {P : Program} {c : Cx} {w w0 : World} {nt : Nat} {ts : Ts} {a : Act} {os : List Obj} (hf : Frm c w nt ts a) (hst : Store w0 c os w)
theorem store_run {o : Oper} {t : TypeId} {n : Nat} {x y : Operand} {b off : Nat} {cur : Array Value} {e : TypeId} (hsz : size? P t = some n) (ho : o.op = .store t x y) (hx : a.eval x = .pointer (some ⟨b, off, none⟩))
    (hy : (a.eval y).cells.size = n) (h1 : ∀ v ∈ (a.eval y).cells.toList, v.oneCell' = true) (hcur : w.heap[b]? = some (.cells cur e (0, 0))) (hl : off + n ≤ cur.size) :
    (execOp a.eval o).run P w = .ok .skip (w.setRow b (splice cur.toList off (a.eval y).cells.toList).toArray) := by
  obtain ⟨inf, hinf, hs⟩ := Option.map_eq_some_iff.1 hsz
  have := run_storeCells_at P b off e (a.eval y).cells.toList 0 cur w hcur (by simp; omega) h1
  simp only [Nat.add_zero] at this
  simp [execOp, ho, hx, Instr.storeAt, Instr.sureAddr, storeVar, sizeOf, typeInfo, hinf, hs, hy, this, splice]
include hf hst
theorem store_own {o : Oper} {t : TypeId} {n nb : Nat} {x y : Operand} (hsz : size? P t = some n) (ho : o.op = .store t x y) {q b o' k sz c1 c0 c0' z : Nat} {m mo : Meta} {xs ys : List (List D)} {el el2 : List D} {us : List Value}
    (hvx : a.eval x = .pointer (some ⟨b, k * m.sz + z, none⟩)) (hm : c.μ q = some m) (hb : m.blk = some b) (hxs : os.getD q .dead = .row sz k c0 xs) (hrow : RepRow c.imm w m sz k c1 xs) (hel : xs[k]? = some el)
    (hmo : c.μ o' = some mo) (hys : os.getD o' .dead = .row 1 0 c0' ys) (hne : ¬ o' = q) (hcell : (a.eval y).cells.toList = us) (d1 : (a.eval y).cells.size = n) (d2 : ∀ v ∈ (a.eval y).cells.toList, v.oneCell' = true)
    (hus : us.length = n) (hz : z + n ≤ el.length) (hel2 : el2.length = m.sz) (hz1 : z ≤ c1) (hz2 : c1 < z + n) (h2c : el2[c1]? = some (.sl ys)) (h2u : us[c1 - z]? = some (.slice (mo.blk.map mk0) mo.len mo.cap))
    (h2o : ∀ i d, i ≠ c1 → el2[i]? = some d → (z ≤ i ∧ i < z + n → ∃ u, us[i - z]? = some u ∧ RepD c.imm w d u) ∧ (¬ (z ≤ i ∧ i < z + n) → el[i]? = some d)) :
    Does P o a w w0 c nb .un ((os.set o' .dead).set q (.row sz (k + 1) c1 (xs.set k el2))) := by
  have hrow' := hrow
  obtain ⟨r1, r2, r3, r4, r5, r6, r7⟩ := hrow'
  obtain ⟨o1, o2, o3, o4, o5, o6, o7⟩ : RepRow c.imm w mo 1 0 c0' ys := getRow hf hst hys (by simp) hmo
  obtain ⟨vs, e, hh, hvs, hr⟩ := r7 b hb
  subst r1
  have hell : el.length = m.sz := r6 el (List.mem_of_getElem? hel)
  have hjl : k < xs.length := (List.getElem?_eq_some_iff.1 hel).1
  have hjm : k * m.sz + m.sz ≤ m.cap * m.sz := by
    have : (k + 1) * m.sz ≤ m.cap * m.sz := Nat.mul_le_mul_right _ (by omega)
    rw [Nat.add_mul] at this; omega
  have hc1 : c1 < m.sz := by omega
  have hrun := store_run (P := P) (w := w) hsz ho hvx d1 d2 hh (by omega)
  have hown : Owns c.μ os q none b := ⟨m, hm, by rw [hxs]; exact hb⟩
  rw [hcell] at hrun
  have hqo : q ≠ o' := fun h => hne h.symm
  have ho'l : ∀ b', mo.blk = some b' → Owns c.μ os o' none b' := fun b' hb' => ⟨mo, hmo, by rw [hys]; exact hb'⟩
  have hbo : ∀ b', mo.blk = some b' → b' ≠ b := by
    rintro b' hb' rfl
    exact hqo (hst.uniq _ _ _ _ _ hown (ho'l _ hb')).1
  have hql := getD_lt hxs (by simp)
  have hgq : ((os.set o' .dead).set q (.row m.sz (k + 1) c1 (xs.set k el2))).getD q .dead = .row m.sz (k + 1) c1 (xs.set k el2) := by
    rw [getD_set, if_pos ⟨rfl, by simpa using hql⟩]
  have hgo : ∀ p, p ≠ q → ((os.set o' .dead).set q (.row m.sz (k + 1) c1 (xs.set k el2))).getD p .dead = if p = o' then .dead else os.getD p .dead := by
    intro p hp
    rw [getD_set, if_neg (fun h => hp h.1.symm), getD_set]
    by_cases hpo : p = o'
    · subst hpo; rw [if_pos ⟨rfl, getD_lt hys (by simp)⟩, if_pos rfl]
    · rw [if_neg (fun h => hpo h.1.symm), if_neg hpo]
  have hgo' : ∀ p, p ≠ q → p ≠ o' → ((os.set o' .dead).set q (.row m.sz (k + 1) c1 (xs.set k el2))).getD p .dead = os.getD p .dead := fun p hp hp' => by rw [hgo p hp, if_neg hp']
  have hgoo : ((os.set o' .dead).set q (.row m.sz (k + 1) c1 (xs.set k el2))).getD o' .dead = .dead := by rw [hgo o' (Ne.symm hqo), if_pos rfl]
  generalize hos2 : ((os.set o' .dead).set q (.row m.sz (k + 1) c1 (xs.set k el2))) = os2 at hgq hgo hgo' hgoo
  have hnk : m.nest k = none := r4.2 hc1 k (Nat.le_refl _)
  let m' : Meta := { m with nest := fun p => if p = k then mo.blk else m.nest p }
  let c' : Cx := { c with μ := fun p => if p = q then some m' else c.μ p }
  have key : ∀ p l b', Owns c'.μ os2 p l b' → (p = q ∧ l = some k ∧ Owns c.μ os o' none b') ∨ (¬ (p = q ∧ l = some k) ∧ p ≠ o' ∧ Owns c.μ os p l b') := by
    rintro p l b' ⟨m1, hm1, ho1⟩
    by_cases hp : p = q
    · subst hp
      rw [hgq] at ho1
      simp only [c', if_true, Option.some.injEq] at hm1
      subst hm1
      cases l with
      | none => exact .inr ⟨by simp, hqo, m, hm, by rw [hxs]; exact ho1⟩
      | some l =>
        obtain ⟨hl1, hl2⟩ := ho1
        by_cases hlk : l = k
        · subst hlk
          simp only [m', if_true] at hl2
          exact .inl ⟨rfl, rfl, ho'l _ hl2⟩
        · simp only [m', hlk, if_false] at hl2
          exact .inr ⟨by simpa using hlk, hqo, m, hm, by rw [hxs]; exact ⟨by omega, hl2⟩⟩
    · simp only [c', hp, if_false] at hm1
      have hpo : p ≠ o' := by
        rintro rfl
        rw [hgoo] at ho1
        cases l <;> exact ho1
      rw [hgo' p hp hpo] at ho1
      exact .inr ⟨fun h => hp h.1, hpo, m1, hm1, ho1⟩
  obtain ⟨s1, s2⟩ := hst.step (c' := c') (os' := os2) (w' := w.setRow b (splice vs.toList (k * m.sz + z) us).toArray) (fun b' => b' = b) ⟨rfl, rfl⟩ (fun _ h => h) (fun _ h => .inl h)
    (fun p m1 hm1 => by
      by_cases hp : p = q
      · subst hp
        rw [hm] at hm1; cases hm1
        exact ⟨m', by simp [c'], rfl, rfl, rfl, rfl, fun j b' hj => by
          by_cases hjk : j = k
          · subst hjk; rw [hnk] at hj; cases hj
          · simpa [m', hjk] using hj⟩
      · exact ⟨m1, by simp [c', hp, hm1], m1.le_refl⟩) (by simp) ⟨rfl, rfl, rfl⟩ (fun b' _ hb' => setRow_other w b b' _ hb') (fun b' hb' => ⟨q, none, by rw [hb']; exact hown⟩)
    (fun ext p x hx hxd => by
      by_cases hp : p = q
      · subst hp
        rw [hgq] at hx
        subst hx
        left
        refine ⟨m', by simp [c'], ?_⟩
        refine RepRow.set (m' := m') hrow hb hh hel hel2 (setRow_heap w b vs _ e (0, 0) hh) (by simp only [List.size_toArray]; rw [splice_length (by simp only [Array.length_toList]; omega)]; simp) (fun i hi => ?_) ⟨rfl, rfl, rfl, rfl⟩ ⟨hjl, fun _ j hj => ?_⟩ (fun p' hp' => ⟨by omega, fun _ => by simp [m', hp']⟩) (fun i d hi => ?_) ext.ki (fun p' b' _ hp' hb' => setRow_other w b b' _ ?_)
        · rw [List.getElem?_toArray, splice_get (by simp only [Array.length_toList]; omega), if_neg (by omega)]
          simp
        · have : j ≠ k := by omega
          simp only [m', this, if_false]
          exact r4.2 hc1 j (by omega)
        · rw [List.getElem?_toArray, splice_get (by simp only [Array.length_toList]; omega)]
          by_cases hic : i = c1
          · subst hic
            rw [h2c] at hi
            cases hi
            refine ⟨.slice (mo.blk.map mk0) mo.len mo.cap, by rw [if_pos (by omega), ← h2u]; congr 1; omega, ?_⟩
            rw [if_pos ⟨by omega, rfl⟩]
            refine ⟨ys, rfl, ?_⟩
            by_cases hmb : ∃ b', mo.blk = some b'
            · obtain ⟨b', hmb⟩ := hmb
              obtain ⟨vs1, e1, hh1, hs1, hr1⟩ := o7 b' hmb
              refine .inr ⟨b', mo.cap, vs1, e1, by simp [m', hmb], by rw [hmb, o2]; rfl, (setRow_other w b b' _ (hbo b' hmb)).trans hh1, by omega, by omega, fun i2 el2 hi2 => ?_⟩
              have hl2 := o6 el2 (List.mem_of_getElem? hi2)
              obtain ⟨d2, rfl⟩ := List.length_eq_one_iff.1 hl2
              obtain ⟨v2, hv2, hd2⟩ := hr1 i2 _ 0 d2 hi2 rfl
              rw [if_neg (by omega)] at hd2
              exact ⟨d2, v2, rfl, by simpa using hv2, hd2.mono ext.ki (fun _ h => h)⟩
            · have hmb : mo.blk = none := by rcases h : mo.blk with _ | b'
                                             · rfl
                                             · exact absurd ⟨b', h⟩ hmb
              have := o5 hmb
              have hy0 : ys = [] := List.eq_nil_of_length_eq_zero (by omega)
              exact .inl ⟨by simp [m', hmb], hy0, none, mo.cap, by rw [hmb, show mo.len = 0 by omega]; rfl⟩
          · obtain ⟨g1, g2⟩ := h2o i d hic hi
            by_cases hin : z ≤ i ∧ i < z + n
            · obtain ⟨u, hu, hud⟩ := g1 hin
              refine ⟨u, by rw [if_pos (by omega), ← hu]; congr 1; omega, ?_⟩
              rw [if_neg (fun h => hic h.2)]
              exact hud.mono ext.ki (fun _ h => h)
            · obtain ⟨u, hu, hur⟩ := hr k el i d hel (g2 hin)
              rw [if_neg (fun h => hic h.2)] at hur
              refine ⟨u, by rw [if_neg (by omega)]; simpa using hu, ?_⟩
              rw [if_neg (fun h => hic h.2)]
              exact hur.mono ext.ki (fun _ h => h)
        · rintro rfl
          have := (hst.uniq _ _ _ _ _ hown (⟨m, hm, by rw [hxs]; exact ⟨hp', hb'⟩⟩ : Owns c.μ os p (some p') b')).2
          cases this
      · have hpo : p ≠ o' := by
          rintro rfl
          rw [hgoo] at hx
          exact hxd hx.symm
        rw [hgo' p hp hpo] at hx
        exact .inr ⟨hx, by simp [c', hp], fun l' b' hq hb' => hp (by subst hb'; exact (hst.uniq _ _ _ _ _ hq hown).1)⟩)
    (fun p l p' l' b' h1 h2 => by
      rcases key _ _ _ h1 with ⟨rfl, rfl, h3⟩ | ⟨n1, n1', h3⟩ <;> rcases key _ _ _ h2 with ⟨rfl, rfl, h4⟩ | ⟨n2, n2', h4⟩
      · exact ⟨rfl, rfl⟩
      · exact absurd (hst.uniq _ _ _ _ _ h3 h4).1.symm n2'
      · exact absurd (hst.uniq _ _ _ _ _ h3 h4).1 n1'
      · exact hst.uniq _ _ _ _ _ h3 h4)
    (fun p l b' h1 => by
      rcases key _ _ _ h1 with ⟨rfl, rfl, h3⟩ | ⟨n1, n1', h3⟩
      · simpa using hst.lt _ _ _ h3
      · simpa using hst.lt _ _ _ h3) (fun b' hb' => by simpa using hst.immlt b' hb') hst.fixlt'
  exact ⟨_, _, c', undef, hrun, .inr ⟨rfl, rfl⟩, s1, s2, .un, fun p hp => by
    by_cases hpq : p = q
    · left; rw [hpq, hm]; simp
    · left; simpa [c', hpq] using hp⟩
theorem d_storeWide {o : Oper} {t : TypeId} {n nb : Nat} {x y : Operand} (hsz : size? P t = some n) (ho : o.op = .store t x y) {q b o' j k sz c0 z p : Nat} {m : Meta} {xs : List (List D)} {el : List D} {ay : AV} {os' : List Obj}
    (hvx : a.eval x = .pointer (some ⟨b, j * m.sz + z, none⟩)) (hm : c.μ q = some m) (hb : m.blk = some b) (hxs : os.getD q .dead = .row sz k c0 xs) (hel : xs[j]? = some el) (hz : z + n ≤ el.length)
    (h2 : RepAV c w ay (a.eval y)) (hlen : ay.cells.length = n) (own : Bool) (hw : wideIx own n j k c0 sz ay = some (p, o')) (hv : storeWide q j k c0 z sz p o' el xs ay os = some os') : Does P o a w w0 c nb .un os' := by
  unfold wideIx at hw
  split at hw
  · cases hw
  rename_i hc
  simp only [Bool.and_eq_true, Nat.blt_eq] at hc
  split at hw
  · cases hw
  rename_i po hix
  split at hw
  rotate_left
  · cases hw
  rename_i hjk
  cases hw
  have hjk := Nat.eq_of_beq_eq_true hjk
  subst hjk
  unfold storeWide at hv
  split at hv
  · cases hv
  rename_i hne
  split at hv
  · cases hv
  rename_i hck
  split at hv
  rotate_left
  · cases hv
  rename_i c0' ys hys
  split at hv
  rotate_left
  · cases hv
  rename_i ds hds
  cases hv
  have hne : ¬ o' = q := fun e => by rw [e, Nat.beq_refl] at hne; cases hne
  have hck : c0 = z + p ∨ j = 0 := by
    rw [Bool.or_eq_true] at hck
    exact hck.imp Nat.eq_of_beq_eq_true Nat.eq_of_beq_eq_true
  have hgp := hwIx_get hix
  have hpl : p < ay.cells.length := (List.getElem?_eq_some_iff.1 hgp).1
  obtain ⟨hdl, hdg⟩ := toDs_get hds
  rw [List.length_set] at hdl
  have hone : ay.cells.all AV.one = true := by
    rw [List.all_eq_true]
    intro v hv
    obtain ⟨i, hi⟩ := List.getElem?_of_mem hv
    by_cases hip : i = p
    · subst hip; rw [hgp] at hi; cases hi; rfl
    · have hil : i < ds.length := by rw [hdl]; exact (List.getElem?_eq_some_iff.1 hi).1
      obtain ⟨v', h1, h3⟩ := hdg i _ (List.getElem?_eq_getElem hil)
      rw [List.getElem?_set_ne (fun e => hip e.symm), hi] at h1
      cases h1
      exact toD_one h3
  have c3 := cells_rep h2 (cells_ok hone)
  have hul := c3.length
  have d1 : (a.eval y).cells.size = n := by simp at hul; omega
  have d2 : ∀ v ∈ (a.eval y).cells.toList, v.oneCell' = true := fun v hv => by
    obtain ⟨i, hi⟩ := List.getElem?_of_mem hv
    have hlt : i < ay.cells.length := by rw [hul]; exact (List.getElem?_eq_some_iff.1 hi).1
    obtain ⟨u, hu, hru⟩ := c3.get i _ (List.getElem?_eq_getElem hlt)
    rw [hi] at hu; cases hu
    exact one_rep hru (by simp only [List.all_eq_true] at hone; exact hone _ (List.getElem_mem hlt))
  obtain ⟨u0, hu0, hr0⟩ := c3.get p _ hgp
  obtain ⟨mo, hmo, hu0e⟩ : ∃ mo, c.μ o' = some mo ∧ u0 = .slice (mo.blk.map mk0) mo.len mo.cap := by
    cases hr0 with
    | hw _ m hm => exact ⟨m, hm, rfl⟩
  have hrow0 : RepRow c.imm w m sz j c0 xs := getRow hf hst hxs (by simp) hm
  have hell : el.length = sz := hrow0.2.2.2.2.2.1 el (List.mem_of_getElem? hel)
  have hms := hrow0.1
  have hrow := hrow0.c0 (c1 := z + p) hc.2 hck
  refine store_own hf hst hsz ho hvx hm hb hxs hrow hel hmo hys hne rfl d1 d2 (by simpa using d1) hz (by rw [splice_length (by rw [List.length_set]; omega)]; omega) (by omega) (by omega) ?_ (by rw [← hu0e, ← hu0]; congr 1; omega) fun i d hi hd => ?_
  · rw [splice_get (by rw [List.length_set]; omega), if_pos (by rw [List.length_set]; omega), show z + p - z = p by omega, List.getElem?_set_self (by omega)]
  · rw [splice_get (by rw [List.length_set]; omega), List.length_set] at hd
    refine ⟨fun hin => ?_, fun hin => ?_⟩
    · rw [if_pos (by omega), List.getElem?_set_ne (by omega)] at hd
      obtain ⟨v, hv1, hv2⟩ := hdg _ _ hd
      rw [List.getElem?_set_ne (by omega)] at hv1
      obtain ⟨u, hu, hur⟩ := c3.get _ _ hv1
      exact ⟨u, hu, toD_rep hur hv2⟩
    · rw [if_neg (by omega)] at hd
      exact hd
theorem d_store {o : Oper} {t : TypeId} {n nb : Nat} {x y : Operand} {X' Y' : X} {own : Bool} {os' : List Obj} (hsz : size? P t = some n) (ho : o.op = .store t x y) (hx : cX x = some X') (hy : cX y = some Y')
    (hv : storeAV own n (getX ts X') (getX ts Y') os = some os') : Does P o a w w0 c nb .un os' := by
  have h1 := rep_X hf hx
  have h2 := rep_X hf hy
  generalize getX ts X' = ax at h1 hv
  generalize getX ts Y' = ay at h2 hv
  generalize hvx : a.eval x = vx at h1
  unfold storeAV at hv
  split at hv
  · simp at hv
  rename_i hlen
  simp only [ne_eq, Decidable.not_not] at hlen
  have cellsOk : ay.cells.all AV.one = true → (a.eval y).cells.size = n ∧ (∀ v ∈ (a.eval y).cells.toList, v.oneCell' = true) ∧ RepAVs c w ay.cells (a.eval y).cells.toList := by
    intro hall
    have hr := cells_rep h2 (cells_ok hall)
    have hl := hr.length
    refine ⟨by simp at hl; omega, fun v hv => ?_, hr⟩
    obtain ⟨i, hi⟩ := List.getElem?_of_mem hv
    have hlt : i < ay.cells.length := by rw [hl]; exact (List.getElem?_eq_some_iff.1 hi).1
    obtain ⟨u, hu, hru⟩ := hr.get i _ (List.getElem?_eq_getElem hlt)
    rw [hi] at hu; cases hu
    exact one_rep hru (by simp only [List.all_eq_true] at hall; exact hall _ (List.getElem_mem hlt))
  cases ax <;> simp only [reduceCtorEq] at hv
  case ptr q off =>
    cases h1 with
    | ptr _ _ b m hm hb =>
    split at hv
    · rename_i cs hcs
      split at hv
      · rename_i hc
        obtain ⟨hoff, hall⟩ := hc
        simp at hv; subst hv
        obtain ⟨c1, c2, c3⟩ := cellsOk hall
        obtain ⟨b', vs, e, hb', hh, hrs⟩ := getRow hf hst hcs (by simp) hm
        rw [hb] at hb'; cases hb'
        have hvl := hrs.length
        have hrun := store_run (P := P) (w := w) hsz ho hvx c1 c2 hh (by simp; omega)
        have hown : Owns c.μ os q none b := ⟨m, hm, by rw [hcs]; exact hb⟩
        obtain ⟨s1, s2⟩ := hst.upd hown (splice vs.toArray.toList off (a.eval y).cells.toList).toArray (x := .box (splice cs off ay.cells)) (own_box hcs) (fun ext => ⟨m, hm, b, splice vs off (a.eval y).cells.toList, e, hb, by
          have := setRow_heap w b vs.toArray (splice vs.toArray.toList off (a.eval y).cells.toList).toArray e (0, 0) hh
          simpa using this, (hrs.splice off c3).mono ext⟩)
        exact ⟨_, _, c, undef, hrun, .inr ⟨rfl, rfl⟩, s1, s2, .un, fun _ hq => .inl hq⟩
      · simp at hv
    · simp at hv
  case rp q j z =>
    cases h1 with
    | rp _ _ _ b m hm hb =>
    split at hv
    · rename_i sz k c0 xs hxs
      split at hv
      · rename_i el hel
        split at hv
        · rename_i hfit
          split at hv
          · simp at hv
          · rename_i hnk
            split at hv
            · rename_i hownc
              obtain ⟨_, hjk, hzc, hn1, _hw⟩ := hownc; clear _hw; subst hn1
              have hjk := hjk.symm
              have hzc := hzc.symm
              subst hjk
              subst hzc
              split at hv
              · rename_i o'
                split at hv
                · simp at hv
                · rename_i hne
                  split at hv
                  · rename_i c0' ys hys
                    simp at hv; subst hv
                    obtain ⟨mo, hmo, hval⟩ : ∃ mo, c.μ o' = some mo ∧ a.eval y = .slice (mo.blk.map mk0) mo.len mo.cap := by
                      generalize a.eval y = vy at h2
                      cases h2 with
                      | hw _ m hm => exact ⟨m, hm, rfl⟩
                    obtain ⟨c1, c2, c3⟩ := cellsOk rfl
                    have hrow : RepRow c.imm w m sz k c0 xs := getRow hf hst hxs (by simp) hm
                    have hrow' := hrow
                    obtain ⟨r1, r2, r3, r4, r5, r6, r7⟩ := hrow'
                    obtain ⟨o1, o2, o3, o4, o5, o6, o7⟩ : RepRow c.imm w mo 1 0 c0' ys := getRow hf hst hys (by simp) hmo
                    obtain ⟨vs, e, hh, hvs, hr⟩ := r7 b hb
                    subst r1
                    have hell : el.length = m.sz := r6 el (List.mem_of_getElem? hel)
                    have hjl : k < xs.length := (List.getElem?_eq_some_iff.1 hel).1
                    have hjm : k * m.sz + m.sz ≤ m.cap * m.sz := by
                      have : (k + 1) * m.sz ≤ m.cap * m.sz := Nat.mul_le_mul_right _ (by omega)
                      rw [Nat.add_mul] at this; omega
                    have hrun := store_run (P := P) (w := w) hsz ho hvx c1 c2 hh (by omega)
                    have hown : Owns c.μ os q none b := ⟨m, hm, by rw [hxs]; exact hb⟩
                    have hcell : (a.eval y).cells.toList = [.slice (mo.blk.map mk0) mo.len mo.cap] := by rw [hval]; rfl
                    rw [hcell] at hrun
                    have hqo : q ≠ o' := fun h => hne h.symm
                    have ho'l : ∀ b', mo.blk = some b' → Owns c.μ os o' none b' := fun b' hb' => ⟨mo, hmo, by rw [hys]; exact hb'⟩
                    have hbo : ∀ b', mo.blk = some b' → b' ≠ b := by
                      rintro b' hb' rfl
                      exact hqo (hst.uniq _ _ _ _ _ hown (ho'l _ hb')).1
                    have hql := getD_lt hxs (by simp)
                    have hgq : ((os.set o' .dead).set q (.row m.sz (k + 1) c0 (xs.set k (el.set c0 (.sl ys))))).getD q .dead = .row m.sz (k + 1) c0 (xs.set k (el.set c0 (.sl ys))) := by
                      rw [getD_set, if_pos ⟨rfl, by simpa using hql⟩]
                    have hgo : ∀ p, p ≠ q → ((os.set o' .dead).set q (.row m.sz (k + 1) c0 (xs.set k (el.set c0 (.sl ys))))).getD p .dead = if p = o' then .dead else os.getD p .dead := by
                      intro p hp
                      rw [getD_set, if_neg (fun h => hp h.1.symm), getD_set]
                      by_cases hpo : p = o'
                      · subst hpo; rw [if_pos ⟨rfl, getD_lt hys (by simp)⟩, if_pos rfl]
                      · rw [if_neg (fun h => hpo h.1.symm), if_neg hpo]
                    have hgo' : ∀ p, p ≠ q → p ≠ o' → ((os.set o' .dead).set q (.row m.sz (k + 1) c0 (xs.set k (el.set c0 (.sl ys))))).getD p .dead = os.getD p .dead := fun p hp hp' => by rw [hgo p hp, if_neg hp']
                    have hgoo : ((os.set o' .dead).set q (.row m.sz (k + 1) c0 (xs.set k (el.set c0 (.sl ys))))).getD o' .dead = .dead := by rw [hgo o' (Ne.symm hqo), if_pos rfl]
                    generalize hos2 : ((os.set o' .dead).set q (.row m.sz (k + 1) c0 (xs.set k (el.set c0 (.sl ys))))) = os2 at hgq hgo hgo' hgoo
                    have hc0 : c0 < m.sz := by omega
                    have hnk : m.nest k = none := r4.2 hc0 k (Nat.le_refl _)
                    let m' : Meta := { m with nest := fun p => if p = k then mo.blk else m.nest p }
                    let c' : Cx := { c with μ := fun p => if p = q then some m' else c.μ p }
                    have key : ∀ p l b', Owns c'.μ os2 p l b' → (p = q ∧ l = some k ∧ Owns c.μ os o' none b') ∨ (¬ (p = q ∧ l = some k) ∧ p ≠ o' ∧ Owns c.μ os p l b') := by
                      rintro p l b' ⟨m1, hm1, ho1⟩
                      by_cases hp : p = q
                      · subst hp
                        rw [hgq] at ho1
                        simp only [c', if_true, Option.some.injEq] at hm1
                        subst hm1
                        cases l with
                        | none => exact .inr ⟨by simp, hqo, m, hm, by rw [hxs]; exact ho1⟩
                        | some l =>
                          obtain ⟨hl1, hl2⟩ := ho1
                          by_cases hlk : l = k
                          · subst hlk
                            simp only [m', if_true] at hl2
                            exact .inl ⟨rfl, rfl, ho'l _ hl2⟩
                          · simp only [m', hlk, if_false] at hl2
                            exact .inr ⟨by simpa using hlk, hqo, m, hm, by rw [hxs]; exact ⟨by omega, hl2⟩⟩
                      · simp only [c', hp, if_false] at hm1
                        have hpo : p ≠ o' := by
                          rintro rfl
                          rw [hgoo] at ho1
                          cases l <;> exact ho1
                        rw [hgo' p hp hpo] at ho1
                        exact .inr ⟨fun h => hp h.1, hpo, m1, hm1, ho1⟩
                    obtain ⟨s1, s2⟩ := hst.step (c' := c') (os' := os2) (w' := w.setRow b (splice vs.toList (k * m.sz + c0) [.slice (mo.blk.map mk0) mo.len mo.cap]).toArray) (fun b' => b' = b) ⟨rfl, rfl⟩ (fun _ h => h) (fun _ h => .inl h)
                      (fun p m1 hm1 => by
                        by_cases hp : p = q
                        · subst hp
                          rw [hm] at hm1; cases hm1
                          exact ⟨m', by simp [c'], rfl, rfl, rfl, rfl, fun j b' hj => by
                            by_cases hjk : j = k
                            · subst hjk; rw [hnk] at hj; cases hj
                            · simpa [m', hjk] using hj⟩
                        · exact ⟨m1, by simp [c', hp, hm1], m1.le_refl⟩) (by simp) ⟨rfl, rfl, rfl⟩ (fun b' _ hb' => setRow_other w b b' _ hb') (fun b' hb' => ⟨q, none, by rw [hb']; exact hown⟩)
                      (fun ext p x hx hxd => by
                        by_cases hp : p = q
                        · subst hp
                          rw [hgq] at hx
                          subst hx
                          left
                          refine ⟨m', by simp [c'], ?_⟩
                          refine RepRow.set (m' := m') hrow hb hh hel (by simpa using hell) (setRow_heap w b vs _ e (0, 0) hh) (by simp only [List.size_toArray]; rw [splice_length (by simp; omega)]; simp) (fun i hi => ?_) ⟨rfl, rfl, rfl, rfl⟩ ⟨hjl, fun _ j hj => ?_⟩ (fun p' hp' => ⟨by omega, fun _ => by simp [m', hp']⟩) (fun i d hi => ?_) ext.ki (fun p' b' _ hp' hb' => setRow_other w b b' _ ?_)
                          · rw [List.getElem?_toArray, splice_get (by simp; omega), if_neg (by simp; omega)]
                            simp
                          · have : j ≠ k := by omega
                            simp only [m', this, if_false]
                            exact r4.2 hc0 j (by omega)
                          · rw [List.getElem?_toArray, splice_get (by simp; omega)]
                            by_cases hic : i = c0
                            · subst hic
                              rw [List.getElem?_set_self (by omega)] at hi
                              cases hi
                              refine ⟨.slice (mo.blk.map mk0) mo.len mo.cap, by simp, ?_⟩
                              rw [if_pos ⟨by omega, rfl⟩]
                              refine ⟨ys, rfl, ?_⟩
                              by_cases hmb : ∃ b', mo.blk = some b'
                              · obtain ⟨b', hmb⟩ := hmb
                                obtain ⟨vs1, e1, hh1, hs1, hr1⟩ := o7 b' hmb
                                refine .inr ⟨b', mo.cap, vs1, e1, by simp [m', hmb], by rw [hmb, o2]; rfl, (setRow_other w b b' _ (hbo b' hmb)).trans hh1, by omega, by omega, fun i2 el2 hi2 => ?_⟩
                                have hl2 := o6 el2 (List.mem_of_getElem? hi2)
                                obtain ⟨d2, rfl⟩ := List.length_eq_one_iff.1 hl2
                                obtain ⟨v2, hv2, hd2⟩ := hr1 i2 _ 0 d2 hi2 rfl
                                rw [if_neg (by omega)] at hd2
                                exact ⟨d2, v2, rfl, by simpa using hv2, hd2.mono ext.ki (fun _ h => h)⟩
                              · have hmb : mo.blk = none := by rcases h : mo.blk with _ | b'
                                                               · rfl
                                                               · exact absurd ⟨b', h⟩ hmb
                                have := o5 hmb
                                have hy0 : ys = [] := List.eq_nil_of_length_eq_zero (by omega)
                                exact .inl ⟨by simp [m', hmb], hy0, none, mo.cap, by rw [hmb, show mo.len = 0 by omega]; rfl⟩
                            · rw [List.getElem?_set_ne (fun h => hic h.symm)] at hi
                              obtain ⟨u, hu, hur⟩ := hr k el i d hel hi
                              rw [if_neg (fun h => hic h.2)] at hur
                              refine ⟨u, by rw [if_neg (by simp; omega)]; simpa using hu, ?_⟩
                              rw [if_neg (fun h => hic h.2)]
                              exact hur.mono ext.ki (fun _ h => h)
                          · rintro rfl
                            have := (hst.uniq _ _ _ _ _ hown (⟨m, hm, by rw [hxs]; exact ⟨hp', hb'⟩⟩ : Owns c.μ os p (some p') b')).2
                            cases this
                        · have hpo : p ≠ o' := by
                            rintro rfl
                            rw [hgoo] at hx
                            exact hxd hx.symm
                          rw [hgo' p hp hpo] at hx
                          exact .inr ⟨hx, by simp [c', hp], fun l' b' hq hb' => hp (by subst hb'; exact (hst.uniq _ _ _ _ _ hq hown).1)⟩)
                      (fun p l p' l' b' h1 h2 => by
                        rcases key _ _ _ h1 with ⟨rfl, rfl, h3⟩ | ⟨n1, n1', h3⟩ <;> rcases key _ _ _ h2 with ⟨rfl, rfl, h4⟩ | ⟨n2, n2', h4⟩
                        · exact ⟨rfl, rfl⟩
                        · exact absurd (hst.uniq _ _ _ _ _ h3 h4).1.symm n2'
                        · exact absurd (hst.uniq _ _ _ _ _ h3 h4).1 n1'
                        · exact hst.uniq _ _ _ _ _ h3 h4)
                      (fun p l b' h1 => by
                        rcases key _ _ _ h1 with ⟨rfl, rfl, h3⟩ | ⟨n1, n1', h3⟩
                        · simpa using hst.lt _ _ _ h3
                        · simpa using hst.lt _ _ _ h3) (fun b' hb' => by simpa using hst.immlt b' hb') hst.fixlt'
                    exact ⟨_, _, c', undef, hrun, .inr ⟨rfl, rfl⟩, s1, s2, .un, fun p hp => by
                      by_cases hpq : p = q
                      · left; rw [hpq, hm]; simp
                      · left; simpa [c', hpq] using hp⟩
                  · simp at hv
              · simp at hv
            · rename_i hnown
              split at hv
              · rename_i p o' hwi
                exact d_storeWide hf hst hsz ho hvx hm hb hxs hel hfit h2 hlen own hwi hv
              split at hv
              · simp at hv
              · rename_i ds os1 hds
                split at hv
                · rename_i sz1 k1 c01 xs1 hxs1
                  simp at hv; subst hv
                  obtain ⟨c1, c2, c3⟩ := cellsOk (freezeL_one hds)
                  obtain ⟨cc, fz, hdl, hdr⟩ := freezeL_rep hst c3 hds
                  have := fz.row _ _ _ _ _ hxs1
                  rw [hxs] at this; cases this
                  have hm1 : cc.μ q = some m := by rw [fz.mu]; exact hm
                  obtain ⟨m', hm', hrow⟩ := fz.st.obj q _ hxs1 (by simp)
                  rw [hm1] at hm'; cases hm'
                  have hrow' : RepRow cc.imm w m sz k c0 xs := hrow
                  obtain ⟨r1, r2, r3, r4, r5, r6, r7⟩ := hrow
                  obtain ⟨vs, e, hh, hvs, hr⟩ := r7 b hb
                  subst r1
                  have hell : el.length = m.sz := r6 el (List.mem_of_getElem? hel)
                  have hjl : j < xs.length := (List.getElem?_eq_some_iff.1 hel).1
                  have hjm : j * m.sz + m.sz ≤ m.cap * m.sz := by
                    have : (j + 1) * m.sz ≤ m.cap * m.sz := Nat.mul_le_mul_right _ (by omega)
                    rw [Nat.add_mul] at this; omega
                  have hrun := store_run (P := P) (w := w) hsz ho hvx c1 c2 hh (by omega)
                  have hown : Owns cc.μ os1 q none b := ⟨m, hm1, by rw [hxs1]; exact hb⟩
                  have hul : (a.eval y).cells.toList.length = n := by simpa using c1
                  have hdn : ds.length = n := by omega
                  obtain ⟨s1, s2⟩ := fz.st.upd hown (splice vs.toList (j * m.sz + z) (a.eval y).cells.toList).toArray (x := .row m.sz k c0 (xs.set j (splice el z ds))) (own_row hxs1) (fun ext => ⟨m, hm1, by
                    refine RepRow.set hrow' hb hh hel (by rw [splice_length (by omega)]; exact hell) (setRow_heap w b vs _ e (0, 0) hh) (by simp only [List.size_toArray]; rw [splice_length (by simp only [Array.length_toList]; omega)]; simp) (fun i hi => ?_) ⟨rfl, rfl, rfl, rfl⟩ r4 (fun _ _ => ⟨Iff.rfl, fun _ => rfl⟩) (fun i d hi => ?_) ext.ki (fun q' b' _ hq' hb' => setRow_other w b b' _ ?_)
                    · rw [List.getElem?_toArray, splice_get (by simp only [Array.length_toList]; omega), if_neg (by omega)]
                      simp
                    · rw [splice_get (by omega)] at hi
                      rw [List.getElem?_toArray, splice_get (by simp only [Array.length_toList]; omega)]
                      by_cases hin : z ≤ i ∧ i < z + n
                      · rw [if_pos (by omega)] at hi
                        obtain ⟨u, hu, hud⟩ := hdr _ _ hi
                        refine ⟨u, by rw [if_pos (by omega), ← hu]; congr 1; omega, ?_⟩
                        rw [if_neg (by rintro ⟨h8, rfl⟩; exact hnk ⟨h8, by omega⟩)]
                        exact hud.mono ext.ki ext.imm
                      · rw [if_neg (by omega)] at hi
                        obtain ⟨u, hu, hur⟩ := hr j el i d hel hi
                        refine ⟨u, by rw [if_neg (by omega)]; simpa using hu, ?_⟩
                        split at hur
                        · rename_i hc
                          rw [if_pos hc]
                          refine hur.mono ext.ki ext.imm (fun b' hb' => setRow_other w b b' _ ?_)
                          rintro rfl
                          have := (fz.st.uniq _ _ _ _ _ hown (⟨m, hm1, by rw [hxs1]; exact ⟨hc.1, hb'⟩⟩ : Owns cc.μ os1 q (some j) b')).2
                          cases this
                        · rename_i hc
                          rw [if_neg hc]
                          exact hur.mono ext.ki ext.imm
                    · rintro rfl
                      have := (fz.st.uniq _ _ _ _ _ hown (⟨m, hm1, by rw [hxs1]; exact ⟨hq', hb'⟩⟩ : Owns cc.μ os1 q (some q') b')).2
                      cases this⟩)
                  exact ⟨_, _, cc, undef, hrun, .inr ⟨rfl, rfl⟩, s1, fz.ext.trans s2, .un, fun p hp => .inl (by rw [fz.mu] at hp; exact hp)⟩
                · simp at hv
        · simp at hv
      · simp at hv
    · simp at hv
  case subp q j i =>
    cases h1 with
    | subp _ _ _ b m hm hb =>
    split at hv
    · rename_i sz k c0 xs hxs
      split at hv
      · rename_i el hel
        split at hv
        · rename_i ys hys
          split at hv
          · rename_i d hd
            split at hv
            · rename_i hc
              obtain ⟨hi, hjk⟩ := hc
              simp at hv; subst hv
              have hone := toD_one hd
              have hay : ay.cells = [ay] := by cases ay <;> first | rfl | (simp [AV.toD] at hd; done)
              obtain ⟨c1, c2, c3⟩ := cellsOk (by rw [hay]; simp [hone])
              rw [hay] at hlen c3
              simp at hlen
              subst hlen
              obtain ⟨yv, hyv⟩ : ∃ yv, (a.eval y).cells.toList = [yv] := List.length_eq_one_iff.1 (by simpa using c1)
              rw [hyv] at c3 c2
              have hrow : RepRow c.imm w m sz k c0 xs := getRow hf hst hxs (by simp) hm
              have hrow' := hrow
              obtain ⟨r1, r2, r3, r4, r5, r6, r7⟩ := hrow'
              have hjl : j < xs.length := (List.getElem?_eq_some_iff.1 hel).1
              have hell : el.length = sz := r6 el (List.mem_of_getElem? hel)
              have hc0 : c0 < el.length := (List.getElem?_eq_some_iff.1 hys).1
              cases hbk : m.blk with
              | none => have := r5 hbk; omega
              | some b0 =>
              obtain ⟨vs, e, hh, hvs, hr⟩ := r7 b0 hbk
              obtain ⟨v0, hv0, hrep0⟩ := hr j el c0 _ hel hys
              rw [if_pos ⟨hjk, rfl⟩] at hrep0
              obtain ⟨ys', hys', hrep0⟩ := hrep0
              cases hys'
              rcases hrep0 with ⟨_, h0, _⟩ | ⟨b1, cap1, vs1, e1, hn1, hv1, hh1, hcap1, hl1, hr1⟩
              · subst h0; simp at hi
              · rw [hb] at hn1; cases hn1
                have hrun := store_run (P := P) (w := w) hsz ho hvx c1 (by rw [hyv]; exact c2) hh1 (by omega)
                rw [hyv] at hrun
                have hown : Owns c.μ os q (some j) b := ⟨m, hm, by rw [hxs]; exact ⟨hjk, hb⟩⟩
                have hown0 : Owns c.μ os q none b0 := ⟨m, hm, by rw [hxs]; exact hbk⟩
                have hbb : b0 ≠ b := by
                  rintro rfl
                  have := (hst.uniq _ _ _ _ _ hown hown0).2
                  cases this
                obtain ⟨s1, s2⟩ := hst.upd hown (splice vs1.toList i [yv]).toArray (x := .row sz k c0 (xs.set j (el.set c0 (.sl (ys.set i [d.scrub]))))) (own_row hxs) (fun ext => ⟨m, hm, by
                  have nest : ∀ p b', p ≠ j → p < k → m.nest p = some b' → (w.setRow b (splice vs1.toList i [yv]).toArray).heap[b']? = w.heap[b']? := by
                    intro p b' hp hpk hnb
                    refine setRow_other w b b' _ ?_
                    rintro rfl
                    have := (hst.uniq _ _ _ _ _ hown (⟨m, hm, by rw [hxs]; exact ⟨hpk, hnb⟩⟩ : Owns c.μ os q (some p) b')).2
                    cases this; exact hp rfl
                  refine RepRow.set hrow hbk hh hel (by simpa using hell) ((setRow_other w b b0 _ hbb).trans hh) rfl (fun _ _ => rfl) ⟨rfl, rfl, rfl, rfl⟩ r4 (fun _ _ => ⟨Iff.rfl, fun _ => rfl⟩) (fun i' d' hi' => ?_) ext.ki nest
                  rw [List.getElem?_set] at hi'
                  split at hi'
                  · rename_i hci
                    subst hci
                    try rw [if_pos hc0] at hi'
                    cases hi'
                    refine ⟨v0, hv0, ?_⟩
                    rw [if_pos ⟨hjk, rfl⟩]
                    refine ⟨_, rfl, .inr ⟨b, cap1, _, e1, hb, by simpa using hv1, setRow_heap w b vs1 _ e1 (0, 0) hh1, by simpa using hcap1, by simp only [List.length_set, List.size_toArray]; rw [splice_length (by simp; omega)]; simpa using hl1, fun i2 el2 hi2 => ?_⟩⟩
                    rw [List.getElem?_toArray, splice_get (by simp; omega)]
                    rw [List.getElem?_set] at hi2
                    split at hi2
                    · rename_i hii
                      subst hii
                      try rw [if_pos hi] at hi2
                      cases hi2
                      refine ⟨d.scrub, yv, rfl, by simp, ?_⟩
                      cases c3 with
                      | cons _ _ _ _ c3 _ => exact scrub_rep (toD_rep (c3.mono ext) hd)
                    · rename_i hii
                      obtain ⟨d2, u2, e2, hu2, hd2⟩ := hr1 i2 el2 hi2
                      exact ⟨d2, u2, e2, by rw [if_neg (by simp; omega)]; simpa using hu2, hd2.mono ext.ki (fun _ h => h)⟩
                  · rename_i hci
                    obtain ⟨u, hu, hur⟩ := hr j el i' d' hel hi'
                    rw [if_neg (fun h => hci h.2.symm)] at hur
                    exact ⟨u, hu, by rw [if_neg (fun h => hci h.2.symm)]; exact hur.mono ext.ki (fun _ h => h)⟩⟩)
                exact ⟨_, _, c, undef, hrun, .inr ⟨rfl, rfl⟩, s1, s2, .un, fun _ hq => .inl hq⟩
            · simp at hv
          · simp at hv
        · simp at hv
      · simp at hv
    · simp at hv
end
end Go.Gn

namespace Go.Gn
open Go
theorem Store.morph {w0 : World} {c : Cx} {os : List Obj} {w : World} (h : Store w0 c os w) {nb : Nat} (hnb : c.μ nb = none) (os1 : List Obj) (hos1 : ∀ q, os1.getD q .dead = os.getD q .dead ∨ os1.getD q .dead = .dead) (x : Obj) (m : Meta) (w' : World) (chg : Nat → Prop)
  (hg : w.heap.size ≤ w'.heap.size) (hsame : w'.os = w.os ∧ w'.tape = w.tape ∧ w'.output = w.output) (hk : ∀ b, b < w.heap.size → ¬ chg b → w'.heap[b]? = w.heap[b]?) (hc : ∀ b, chg b → ∃ q l, Owns c.μ os q l b ∧ os1.getD q .dead = .dead)
  (hown : ∀ l b, Owns (c.with nb m).μ (setAt os1 nb x) nb l b → (b = w.heap.size ∧ w.heap.size < w'.heap.size) ∨ ∃ q lq, Owns c.μ os q lq b ∧ os1.getD q .dead = .dead)
  (huniq : ∀ l l' b, Owns (c.with nb m).μ (setAt os1 nb x) nb l b → Owns (c.with nb m).μ (setAt os1 nb x) nb l' b → l = l')
  (hr : Ext c w (c.with nb m) w' → RepObj (c.with nb m) w' m x) :
  Store w0 (c.with nb m) (setAt os1 nb x) w' ∧ Ext c w (c.with nb m) w' := by
 have other : ∀ o l b, o ≠ nb → Owns (c.with nb m).μ (setAt os1 nb x) o l b → Owns c.μ os o l b ∧ os1.getD o .dead = os.getD o .dead ∧ os1.getD o .dead ≠ .dead := by
  rintro o l b hne ⟨m', hm', ho⟩
  simp only [Cx.with, hne, if_false] at hm'
  rw [getD_setAt, if_neg (Ne.symm hne)] at ho
  rcases hos1 o with h1 | h1
  ·refine ⟨⟨m', hm', by rw [← h1]; exact ho⟩, h1, fun hd => ?_⟩
   rw [hd] at ho; cases l <;> exact ho
  ·rw [h1] at ho; exfalso; cases l <;> exact ho
 refine h.step chg ⟨rfl, rfl⟩ (fun _ hb => hb) (fun _ hb => .inl hb) (fun o m' ho => ?_) hg hsame hk (fun b hb => let ⟨q, l, hq, _⟩ := hc b hb; ⟨q, l, hq⟩) (fun ext o y hy hne => ?_) ?_ ?_ (fun b hb => Nat.lt_of_lt_of_le (h.immlt b hb) hg) h.fixlt'
 ·simp only [Cx.with]
  by_cases he : o = nb
  ·subst he; rw [hnb] at ho; cases ho
  ·exact ⟨m', by simp [he, ho], m'.le_refl⟩
 ·by_cases he : o = nb
  ·subst he
   left
   rw [getD_setAt, if_pos rfl] at hy
   subst hy
   exact ⟨m, by simp [Cx.with], hr ext⟩
  ·right
   rw [getD_setAt, if_neg (Ne.symm he)] at hy
   rcases hos1 o with h1 | h1
   ·refine ⟨h1.symm.trans hy, by simp [Cx.with, he], fun l b ho hcb => ?_⟩
    obtain ⟨q, lq, hq, hd⟩ := hc b hcb
    have := (h.uniq _ _ _ _ _ ho hq).1
    subst this
    exact hne (hy.symm.trans hd)
   ·exact absurd (hy.symm.trans h1) hne
 ·intro o l o' l' b h1 h2
  by_cases he : o = nb <;> by_cases he' : o' = nb
  ·subst he; subst he'; exact ⟨rfl, huniq _ _ _ h1 h2⟩
  ·subst he
   obtain ⟨h3, h4, h5⟩ := other _ _ _ he' h2
   rcases hown _ _ h1 with ⟨rfl, _⟩ | ⟨q, lq, hq, hd⟩
   ·exact absurd (h.lt _ _ _ h3).1 (Nat.lt_irrefl _)
   ·have := (h.uniq _ _ _ _ _ h3 hq).1
    subst this; exact absurd hd h5
  ·subst he'
   obtain ⟨h3, h4, h5⟩ := other _ _ _ he h1
   rcases hown _ _ h2 with ⟨rfl, _⟩ | ⟨q, lq, hq, hd⟩
   ·exact absurd (h.lt _ _ _ h3).1 (Nat.lt_irrefl _)
   ·have := (h.uniq _ _ _ _ _ h3 hq).1
    subst this; exact absurd hd h5
  ·exact h.uniq _ _ _ _ _ (other _ _ _ he h1).1 (other _ _ _ he' h2).1
 ·intro o l b h1
  by_cases he : o = nb
  ·subst he
   rcases hown _ _ h1 with ⟨rfl, hlt⟩ | ⟨q, lq, hq, hd⟩
   ·exact ⟨hlt, fun hi => absurd (h.immlt _ hi) (Nat.lt_irrefl _), fun hi => absurd (h.fixlt' _ hi) (Nat.lt_irrefl _), fun hi => absurd (h.othlt _ hi) (Nat.lt_irrefl _)⟩
   ·obtain ⟨h3, h4, h5⟩ := h.lt _ _ _ hq
    exact ⟨Nat.lt_of_lt_of_le h3 hg, h4, h5⟩
  ·obtain ⟨h3, h4, h5⟩ := h.lt _ _ _ (other _ _ _ he h1).1
   exact ⟨Nat.lt_of_lt_of_le h3 hg, h4, h5⟩
theorem run_append_none {P : Program} {w : World} (t ty e : TypeId) (i : TypeInfo) (ht : P.underlying t = some (.slice e)) (hi : P.info? e = some i) (base : Option Addr) (sLen sCap : Nat) (A : Option Addr) (c : Nat) (h : sLen ≤ sCap) :
  (Builtin.append_ #[t, t] ty #[.slice base sLen sCap, .slice A 0 c]).run P w = .ok (.slice base sLen sCap) w := by
 have hn : (Builtin.firstCells i.size 0 (.slice A 0 c)).run P w = .ok #[] w := by
  cases A <;> simp [Builtin.firstCells, loadCells, loadCellsFrom]
 cases base <;> simp [Builtin.append_, run_underlying ht, sizeOf, typeInfo, hi, Builtin.lenOf, h, hn, storeCells]
theorem app_core {P : Program} {w : World} {c : Cx} (t ty e : TypeId) (i : TypeInfo) (z : Value) (ht : P.underlying t = some (.slice e)) (hi : P.info? e = some i) (hz : i.zero = some z) (hzs : z.cells.size = i.size) (hby : i.bytes ≠ 0)
  {m : Meta} {k c0 : Nat} {xs : List (List D)} (hrow : RepRow c.imm w m i.size k c0 xs) (A : Option Addr) (n cap : Nat) (news : List Value) (hl : news.length = n * i.size)
  (hnews : 0 < n → ∃ a, A = some a ∧ ∀ j u, news[j]? = some u → w.cell? (a.add j) = some u) (h1 : ∀ u ∈ news, u.oneCell' = true) (hbytes : (xs.length + n) * i.bytes ≤ 140737488355328) :
  ∃ w' blk len' cap', (Builtin.append_ #[t, t] ty #[.slice (m.blk.map mk0) m.len m.cap, .slice A n cap]).run P w = .ok (.slice (blk.map mk0) len' cap') w' ∧ w'.os = w.os ∧ w'.tape = w.tape ∧ w'.output = w.output ∧ w.heap.size ≤ w'.heap.size ∧
   (∀ b, b < w.heap.size → m.blk ≠ some b → w'.heap[b]? = w.heap[b]?) ∧ (blk = m.blk ∨ (blk = some w.heap.size ∧ w.heap.size < w'.heap.size)) ∧
   len' = xs.length + n ∧ len' ≤ cap' ∧ (blk = none → cap' = 0) ∧
   ∀ b', blk = some b' → ∃ vs' e', w'.heap[b']? = some (.cells vs' e' (0, 0)) ∧ vs'.size = cap' * i.size ∧
    (∀ b vs e, m.blk = some b → w.heap[b]? = some (.cells vs e (0, 0)) → ∀ q, q < xs.length * i.size → vs'[q]? = vs[q]?) ∧ (∀ q u, news[q]? = some u → vs'[xs.length * i.size + q]? = some u) := by
 obtain ⟨r1, r2, r3, r4, r5, r6, r7⟩ := hrow
 have hbig : (xs.length + n) * 1 ≤ (xs.length + n) * i.bytes := Nat.mul_le_mul_left _ (Nat.pos_of_ne_zero hby)
 rcases Nat.eq_zero_or_pos n with rfl | hn
 ·have hnil : news = [] := List.eq_nil_of_length_eq_zero (by simpa using hl)
  subst hnil
  refine ⟨w, m.blk, m.len, m.cap, run_append_none t ty e i ht hi _ _ _ _ _ r3, rfl, rfl, rfl, Nat.le_refl _, fun _ _ _ => rfl, .inl rfl, by rw [r2]; rfl, r3, r5, fun b' hb' => ?_⟩
  obtain ⟨vs, e', hh, hs, _⟩ := r7 b' hb'
  exact ⟨vs, e', hh, hs, fun b vs2 e2 hb hh2 q _ => by rw [hb'] at hb; cases hb; rw [hh] at hh2; cases hh2; rfl, fun q u hq => by simp at hq⟩
 ·obtain ⟨a, rfl, hcells⟩ := hnews hn
  rcases hblk : m.blk with _ | b
  ·have hc0 := r5 hblk
   have hx0 : xs.length = 0 := by omega
   have hr := run_append_nil (P := P) w t ty e i z ht hi hz a n cap news hl hcells hn (by omega) (by rw [hx0] at hbytes; simp at hbytes; omega)
   have hge := grownCap_ge w n 0 e
   refine ⟨w.drew.alloc (.cells (news.toArray ++ Builtin.zeroCells z.cells (grownCap w n 0 e - n)) e), some w.heap.size, n, grownCap w n 0 e, by rw [r2, hx0, hc0]; exact hr, rfl, rfl, rfl, by simp, fun b hb _ => heap_alloc_old w.drew _ b hb, .inr ⟨rfl, by simp⟩, by omega, hge, by simp, fun b' hb' => ?_⟩
   cases hb'
   refine ⟨_, e, heap_alloc_new w.drew _, ?_, (fun b vs e' hb => by cases hb), fun q u hq => ?_⟩
   ·simp only [Array.size_append, List.size_toArray, size_zeroCells, hzs, hl, ← Nat.add_mul]
    congr 1; omega
   ·have hql := (List.getElem?_eq_some_iff.1 hq).1
    rw [hx0, Array.getElem?_append_left (by simp; omega)]
    simpa using hq
  ·obtain ⟨vs, e', hh, hs, hrr⟩ := r7 b hblk
   have hxc : xs.length * i.size ≤ vs.size := by rw [hs]; exact Nat.mul_le_mul_right _ (by omega)
   by_cases hroom : m.len + n ≤ m.cap
   ·have hfit : xs.length * i.size + news.length ≤ vs.size := by rw [hl, hs, ← Nat.add_mul]; exact Nat.mul_le_mul_right _ (by omega)
    have hst := run_storeCells_at P b (xs.length * i.size) e' news 0 vs w hh (by simpa using hfit) h1
    simp only [Nat.add_zero] at hst
    have hf := run_firstCells_some (P := P) w i.size n a n cap news hl hcells
    refine ⟨w.setRow b (vs.toList.take (xs.length * i.size) ++ news ++ vs.toList.drop (xs.length * i.size + news.length)).toArray, some b, m.len + n, m.cap, ?_, rfl, rfl, rfl, by simp, fun b' _ hb' => setRow_other w b b' _ (fun h => hb' (by rw [h])), .inl rfl, by omega, hroom, by simp, fun b' hb' => ?_⟩
    ·simp [Builtin.append_, run_underlying ht, sizeOf, typeInfo, hi, Builtin.lenOf, hroom, hf, mk0, Addr.add_lit, r2] at hst ⊢
     rw [if_pos (by omega)]
     simp [hst]
    ·cases hb'
     refine ⟨_, e', setRow_heap w b vs _ e' (0, 0) hh, ?_, fun b2 vs2 e2 hb2 hh2 q hq => ?_, fun q u hq => ?_⟩
     ·have := splice_length (cs := vs.toList) (vs := news) (off := xs.length * i.size) (by simpa using hfit)
      simpa [splice, hs] using this
     ·cases hb2
      rw [hh] at hh2; cases hh2
      have := splice_get (cs := vs.toList) (vs := news) (off := xs.length * i.size) (by simpa using hfit) q
      rw [if_neg (by omega)] at this
      simpa [splice] using this
     ·have hql := (List.getElem?_eq_some_iff.1 hq).1
      have := splice_get (cs := vs.toList) (vs := news) (off := xs.length * i.size) (by simpa using hfit) (xs.length * i.size + q)
      rw [if_pos (by omega)] at this
      simp only [splice, Nat.add_sub_cancel_left] at this
      rw [List.getElem?_toArray, this, hq]
   ·have holds : ∀ j u, (vs.toList.take (xs.length * i.size))[j]? = some u → w.cell? ((mk0 b).add j) = some u := by
     intro j u hj
     rw [List.getElem?_take] at hj
     split at hj
     ·simp [mk0, Addr.add_lit, World.cell?, hh]
      simpa using hj
     ·cases hj
    have hlo : (vs.toList.take (xs.length * i.size)).length = m.len * i.size := by simp [r2]; omega
    have hr := run_append_grow (P := P) w t ty e i z ht hi hz (mk0 b) m.len m.cap _ hlo holds a n cap news hl hcells (by omega) (by omega) (growslice_fits (by omega) (by rw [r2]; exact hbytes))
    have hge := grownCap_ge w (m.len + n) m.cap e
    refine ⟨_, some w.heap.size, m.len + n, grownCap w (m.len + n) m.cap e, hr, rfl, rfl, rfl, by simp, fun b hb _ => heap_alloc_old w.drew _ b hb, .inr ⟨rfl, by simp⟩, by omega, hge, by simp, fun b' hb' => ?_⟩
    cases hb'
    refine ⟨_, e, heap_alloc_new w.drew _, ?_, fun b2 vs2 e2 hb2 hh2 q hq => ?_, fun q u hq => ?_⟩
    ·simp only [Array.size_append, List.size_toArray, size_zeroCells, hzs, hl, hlo, ← Nat.add_mul]
     congr 1; omega
    ·cases hb2
     rw [hh] at hh2; cases hh2
     rw [Array.getElem?_append_left (by simp; omega), Array.getElem?_append_left (by simp; omega)]
     simp [hq]
    ·have hql := (List.getElem?_eq_some_iff.1 hq).1
     rw [Array.getElem?_append_left (by simp; omega), Array.getElem?_append_right (by simp; omega)]
     simp only [List.size_toArray, hlo, r2, Nat.add_sub_cancel_left]
     simpa using hq
end Go.Gn

namespace Go.Gn
open Go
def Els (w : World) (sz : Nat) (R : Nat → Nat → D → Value → Prop) (ys : List (List D)) (v : Value) : Prop :=
  ∃ (A : Option Addr) (cap : Nat) (news : List Value), v = .slice A ys.length cap ∧ news.length = ys.length * sz ∧ (0 < ys.length → ∃ a, A = some a ∧ ∀ j u, news[j]? = some u → w.cell? (a.add j) = some u) ∧ (∀ u ∈ news, u.oneCell' = true) ∧ (∀ el ∈ ys, el.length = sz) ∧
    ∀ (j : Nat) (el : List D) (i : Nat) (d : D), ys[j]? = some el → el[i]? = some d → ∃ u, news[j * sz + i]? = some u ∧ R j i d u
theorem els_nil {w : World} {sz : Nat} {R : Nat → Nat → D → Value → Prop} (A : Option Addr) (cap : Nat) : Els w sz R [] (.slice A 0 cap) :=
  ⟨A, cap, [], rfl, by simp, fun h => absurd h (Nat.lt_irrefl 0), by simp, by simp, fun j el i d h => by simp at h⟩
theorem els_of {w : World} {sz : Nat} {R : Nat → Nat → D → Value → Prop} {ys : List (List D)} {b off cap : Nat} {A : Option Addr} (hA : 0 < ys.length → A = some ⟨b, off, none⟩)
    (h : ∀ (j : Nat) (el : List D), ys[j]? = some el → el.length = sz ∧ ∀ (i : Nat) (d : D), el[i]? = some d → ∃ u, cellAt w b (off + j * sz + i) = some u ∧ u.oneCell' = true ∧ R j i d u) : Els w sz R ys (.slice A ys.length cap) := by
  have cell : ∀ p, p < ys.length * sz → ∃ u, cellAt w b (off + p) = some u ∧ u.oneCell' = true := by
    intro p hp
    have hs : 0 < sz := by rcases Nat.eq_zero_or_pos sz with h | h; · rw [h] at hp; simp at hp
                           · exact h
    have hj : p / sz < ys.length := Nat.div_lt_of_lt_mul (by rwa [Nat.mul_comm])
    obtain ⟨h1, h2⟩ := h (p / sz) _ (List.getElem?_eq_getElem hj)
    have hi : p % sz < (ys[p / sz]).length := by rw [h1]; exact Nat.mod_lt _ hs
    obtain ⟨u, hu, ho, _⟩ := h2 (p % sz) _ (List.getElem?_eq_getElem hi)
    refine ⟨u, ?_, ho⟩
    rw [Nat.add_assoc, Nat.mul_comm, Nat.div_add_mod] at hu
    exact hu
  have get : ∀ p, ((List.range (ys.length * sz)).map fun p => (cellAt w b (off + p)).getD undef)[p]? = if p < ys.length * sz then some ((cellAt w b (off + p)).getD undef) else none := by
    intro p
    by_cases hp : p < ys.length * sz
    · simp [hp]
    · simp [hp]
  refine ⟨A, cap, (List.range (ys.length * sz)).map fun p => (cellAt w b (off + p)).getD undef, rfl, by simp, fun hp => ⟨_, hA hp, fun j u hj => ?_⟩, fun u hu => ?_, fun el hel => ?_, fun j el i d hj hi => ?_⟩
  · rw [get] at hj
    split at hj
    · rename_i hlt
      obtain ⟨v, hv, _⟩ := cell j hlt
      rw [hv] at hj
      simp at hj
      subst hj
      rw [add_none]
      exact hv
    · cases hj
  · obtain ⟨j, hj⟩ := List.getElem?_of_mem hu
    rw [get] at hj
    split at hj
    · rename_i hlt
      obtain ⟨v, hv, ho⟩ := cell j hlt
      rw [hv] at hj
      simp at hj
      subst hj
      exact ho
    · cases hj
  · obtain ⟨j, hj⟩ := List.getElem?_of_mem hel
    exact (h j el hj).1
  · obtain ⟨h1, h2⟩ := h j el hj
    obtain ⟨u, hu, ho, hr⟩ := h2 i d hi
    have hi' : i < sz := by rw [← h1]; exact (List.getElem?_eq_some_iff.1 hi).1
    have hlt : j * sz + i < ys.length * sz := by
      have : (j + 1) * sz ≤ ys.length * sz := Nat.mul_le_mul_right _ (List.getElem?_eq_some_iff.1 hj).1
      rw [Nat.add_mul] at this; omega
    refine ⟨u, ?_, hr⟩
    rw [get, if_pos hlt, ← Nat.add_assoc, hu]
    rfl
theorem els_repD {S : Nat → Prop} {w : World} {sz : Nat} {ys : List (List D)} {v : Value} (h : RepD S w (.sl ys) v) (hs : szOk sz ys = true) : Els w sz (fun _ _ d u => RepD S w d u) ys v := by
  cases h with
  | nil A c => exact els_nil A c
  | sl _ b off sz' cap f hne hb hc hcell hrep =>
    have he : sz' = sz := by
      rcases ys with _ | ⟨y, ys⟩
      · exact absurd rfl hne
      · have := (hcell 0 y rfl).1
        simp only [szOk] at hs
        rw [← this]
        exact Nat.eq_of_beq_eq_true hs
    subst he
    exact els_of (fun _ => rfl) fun j el hj => ⟨(hcell j el hj).1, fun i d hi => ⟨_, (hcell j el hj).2 i d hi, (hrep j el i d hj hi).one, hrep j el i d hj hi⟩⟩
theorem Els.mono {w : World} {sz : Nat} {R R' : Nat → Nat → D → Value → Prop} {ys : List (List D)} {v : Value} (h : Els w sz R ys v) (hr : ∀ j i d u, R j i d u → R' j i d u) : Els w sz R' ys v := by
  obtain ⟨A, cap, news, h1, h2, h3, h4, h5, h6⟩ := h
  refine ⟨A, cap, news, h1, h2, h3, h4, h5, fun j el i d hj hi => ?_⟩
  obtain ⟨u, hu, hru⟩ := h6 j el i d hj hi
  exact ⟨u, hu, hr _ _ _ _ hru⟩
theorem Els.scrub {S S' : Nat → Prop} {w : World} {sz : Nat} {ys : List (List D)} {v : Value} (h : Els w sz (fun _ _ d u => RepD S w d u) ys v) : Els w sz (fun _ _ d u => RepD S' w d u) (ys.map (·.map D.scrub)) v := by
  obtain ⟨A, cap, news, h1, h2, h3, h4, h5, h6⟩ := h
  refine ⟨A, cap, news, by simpa using h1, by simpa using h2, by simpa using h3, h4, fun el hel => ?_, fun j el i d hj hi => ?_⟩
  · obtain ⟨x, hx, rfl⟩ := List.mem_map.1 hel
    simpa using h5 x hx
  · simp only [List.getElem?_map, Option.map_eq_some_iff] at hj
    obtain ⟨x, hx, rfl⟩ := hj
    simp only [List.getElem?_map, Option.map_eq_some_iff] at hi
    obtain ⟨d, hd, rfl⟩ := hi
    obtain ⟨u, hu, hr⟩ := h6 j x i d hx hd
    refine ⟨u, hu, ?_⟩
    cases d with
    | int k n => cases hr; exact .int _ _
    | bool b => cases hr; exact .bool _
    | str s => cases hr; exact .str _
    | sl xs => exact .top _ hr.one
    | top => exact .top _ hr.one
theorem view_get {α : Type} {xs : List α} {lo len : Nat} (h : lo + len ≤ xs.length) : (view xs lo len).length = len ∧ ∀ j x, (view xs lo len)[j]? = some x → xs[lo + j]? = some x := by
  refine ⟨by simp [view]; omega, fun j x hj => ?_⟩
  simp only [view, List.getElem?_take, List.getElem?_drop] at hj
  split at hj
  · exact hj
  · cases hj
theorem els_row {imm S : Nat → Prop} {w : World} {m : Meta} {sz k c0 : Nat} {xs : List (List D)} (h : RepRow imm w m sz k c0 xs) (hs : ∀ b, imm b → S b) (hn : ∀ j b, j < k → m.nest j = some b → S b) {lo len cap : Nat} {A : Option Addr} (hA : 0 < len → ∃ b, m.blk = some b ∧ A = some ⟨b, lo * m.sz, none⟩) (hl : lo + len ≤ xs.length) :
    Els w sz (fun _ _ d u => RepD S w d u) (view xs lo len) (.slice A len cap) := by
  obtain ⟨v1, v2⟩ := view_get hl
  rcases Nat.eq_zero_or_pos len with rfl | hp
  · have : view xs lo 0 = [] := by simp [view]
    rw [this]; exact els_nil A cap
  · obtain ⟨b, hb, rfl⟩ := hA hp
    obtain ⟨h1, h2, h3, h4, h5, h6, h7⟩ := h.flat hs hn
    obtain ⟨vs, e, hh, hsz, hr⟩ := h7 b hb
    have := els_of (w := w) (sz := sz) (R := fun _ _ d u => RepD S w d u) (ys := view xs lo len) (b := b) (off := lo * m.sz) (cap := cap) (A := some ⟨b, lo * m.sz, none⟩) (fun _ => rfl) (fun j el hj => by
      have hj' := v2 j el hj
      refine ⟨h6 el (List.mem_of_getElem? hj'), fun i d hi => ?_⟩
      obtain ⟨u, hu, hru⟩ := hr (lo + j) el i d hj' hi
      rw [if_neg (by omega)] at hru
      refine ⟨u, ?_, hru.one, hru⟩
      unfold cellAt World.cell?
      simp only [hh, h1]
      rw [← Nat.add_mul]
      simpa using hu)
    rwa [v1] at this
theorem app_step {P : Program} {w w0 : World} {c : Cx} {os : List Obj} (hst : Store w0 c os w) {nb : Nat} (hnb : c.μ nb = none) (t ty e : TypeId) (i : TypeInfo) (z : Value) (ht : P.underlying t = some (.slice e)) (hi : P.info? e = some i) (hz : i.zero = some z) (hzs : z.cells.size = i.size) (hby : i.bytes ≠ 0)
    {m : Meta} {k c0 : Nat} {xs ys : List (List D)} (hrow : RepRow c.imm w m i.size k c0 xs) {xv : Value} (os1 : List Obj) (hos1 : ∀ q, os1.getD q .dead = os.getD q .dead ∨ os1.getD q .dead = .dead)
    (k' c0' : Nat) (nest' : Nat → Option Nat) (Rr : Option Nat → Nat → Option Nat → Prop) (hinj : ∀ l l' q lq, Rr l q lq → Rr l' q lq → l = l')
    (hnone : ∀ b, m.blk = some b → ∃ q lq, Owns c.μ os q lq b ∧ os1.getD q .dead = .dead ∧ Rr none q lq) (hsome : ∀ j b, j < k' → nest' j = some b → ∃ q lq, Owns c.μ os q lq b ∧ os1.getD q .dead = .dead ∧ Rr (some j) q lq)
    (hn1 : ∀ j, j < k → nest' j = m.nest j) (hk' : k' ≤ xs.length + ys.length ∧ (c0' < i.size → ∀ j, k' ≤ j → nest' j = none)) (hkk : ∀ j, j < xs.length → (j < k' ↔ j < k) ∧ c0' = c0)
    (hels : Els w i.size (fun j q d u => if xs.length + j < k' ∧ q = c0' then RepN c.imm w ⟨none, 0, 0, 0, nest'⟩ (xs.length + j) d u else RepD c.imm w d u) ys xv) (hbytes : (xs.length + ys.length) * i.bytes ≤ 140737488355328) :
    ∃ w' m', (Builtin.append_ #[t, t] ty #[.slice (m.blk.map mk0) m.len m.cap, xv]).run P w = .ok (.slice (m'.blk.map mk0) m'.len m'.cap) w' ∧ Store w0 (c.with nb m') (setAt os1 nb (.row i.size k' c0' (xs ++ ys))) w' ∧ Ext c w (c.with nb m') w' := by
  obtain ⟨A, cap, news, rfl, hl, hcells, hone, hyl, hrep⟩ := hels
  obtain ⟨w', blk, len', cap', hrun, s1, s2, s3, s4, s5, s6, s7, s8, s9, s10⟩ := app_core (c := c) t ty e i z ht hi hz hzs hby hrow A ys.length cap news hl hcells hone hbytes
  obtain ⟨r1, r2, r3, r4, r5, r6, r7⟩ := hrow
  have hsep : ∀ j b, j < k' → nest' j = some b → m.blk ≠ some b ∧ b < w.heap.size := by
    intro j b hj hb
    obtain ⟨q, lq, h1, h2, h3⟩ := hsome j b hj hb
    refine ⟨fun hh => ?_, (hst.lt _ _ _ h1).1⟩
    obtain ⟨q', lq', h1', h2', h3'⟩ := hnone b hh
    obtain ⟨rfl, rfl⟩ := hst.uniq _ _ _ _ _ h1 h1'
    have := hinj _ _ _ _ h3 h3'
    cases this
  have hgn : (setAt os1 nb (.row i.size k' c0' (xs ++ ys))).getD nb .dead = .row i.size k' c0' (xs ++ ys) := by rw [getD_setAt, if_pos rfl]
  have hownb : ∀ l b, Owns (c.with nb ⟨blk, i.size, len', cap', nest'⟩).μ (setAt os1 nb (.row i.size k' c0' (xs ++ ys))) nb l b → (b = w.heap.size ∧ w.heap.size < w'.heap.size ∧ l = none) ∨ ∃ q lq, Owns c.μ os q lq b ∧ os1.getD q .dead = .dead ∧ Rr l q lq := by
    rintro l b ⟨m1, hm1, ho⟩
    simp only [Cx.with, if_true, Option.some.injEq] at hm1
    subst hm1
    rw [hgn] at ho
    cases l with
    | none =>
      have ho : blk = some b := ho
      rcases s6 with h | ⟨h, h'⟩
      · exact .inr (hnone b (by rw [← h]; exact ho))
      · rw [h] at ho; cases ho; exact .inl ⟨rfl, h', rfl⟩
    | some j => exact .inr (hsome j b ho.1 ho.2)
  obtain ⟨t1, t2⟩ := hst.morph hnb os1 hos1 (.row i.size k' c0' (xs ++ ys)) ⟨blk, i.size, len', cap', nest'⟩ w' (fun b => m.blk = some b) s4 ⟨s1, s2, s3⟩ s5
    (fun b hb => by obtain ⟨q, lq, h1, h2, _⟩ := hnone b hb; exact ⟨q, lq, h1, h2⟩)
    (fun l b ho => by
      rcases hownb l b ho with ⟨h1, h2, _⟩ | ⟨q, lq, h1, h2, _⟩
      · exact .inl ⟨h1, h2⟩
      · exact .inr ⟨q, lq, h1, h2⟩)
    (fun l l' b h1 h2 => by
      rcases hownb l b h1 with ⟨e1, _, rfl⟩ | ⟨q, lq, o1, d1, e1⟩ <;> rcases hownb l' b h2 with ⟨e2, _, rfl⟩ | ⟨q', lq', o2, d2, e2⟩
      · rfl
      · subst e1; exact absurd (hst.lt _ _ _ o2).1 (Nat.lt_irrefl _)
      · subst e2; exact absurd (hst.lt _ _ _ o1).1 (Nat.lt_irrefl _)
      · obtain ⟨rfl, rfl⟩ := hst.uniq _ _ _ _ _ o1 o2
        exact hinj _ _ _ _ e1 e2)
    (fun ext => by
      refine ⟨rfl, by simpa using s7, s8, ⟨by simpa using hk'.1, hk'.2⟩, s9, fun el hel => ?_, fun b' hb' => ?_⟩
      · rcases List.mem_append.1 hel with h | h
        · exact r6 el h
        · exact hyl el h
      · obtain ⟨vs', e', hh', hs', ho', hn'⟩ := s10 b' hb'
        refine ⟨vs', e', hh', hs', fun j el q d hj hq => ?_⟩
        rw [List.getElem?_append] at hj
        split at hj
        · rename_i hjl
          cases hblk : m.blk with
          | none => have := r5 hblk; omega
          | some b =>
            obtain ⟨vs, e2, hh, hs, hr⟩ := r7 b hblk
            obtain ⟨v, hv, hrep⟩ := hr j el q d hj hq
            have hql : q < i.size := by rw [← r6 el (List.mem_of_getElem? hj)]; exact (List.getElem?_eq_some_iff.1 hq).1
            have hpl : j * i.size + q < xs.length * i.size := by
              have : (j + 1) * i.size ≤ xs.length * i.size := Nat.mul_le_mul_right _ hjl
              rw [Nat.add_mul] at this; omega
            refine ⟨v, by rw [ho' b vs e2 hblk hh _ hpl]; exact hv, ?_⟩
            obtain ⟨hk1, hk2⟩ := hkk j hjl
            split at hrep
            · rename_i hc
              rw [if_pos ⟨hk1.2 hc.1, hc.2.trans hk2.symm⟩]
              refine (hrep.mono ext.ki ext.imm (fun b1 hb1 => ?_)).congr (by exact hn1 j hc.1)
              have := hsep j b1 (hk1.2 hc.1) (by rw [hn1 j hc.1]; exact hb1)
              exact s5 b1 this.2 this.1
            · rename_i hc
              rw [if_neg (fun h => hc ⟨hk1.1 h.1, h.2.trans hk2⟩)]
              exact hrep.mono ext.ki ext.imm
        · rename_i hjl
          obtain ⟨u, hu, hru⟩ := hrep (j - xs.length) el q d hj hq
          have e3 : xs.length + (j - xs.length) = j := by omega
          rw [e3] at hru
          have e4 : j * i.size + q = xs.length * i.size + ((j - xs.length) * i.size + q) := by
            rw [← Nat.add_assoc, ← Nat.add_mul, e3]
          refine ⟨u, by rw [e4]; exact hn' _ _ hu, ?_⟩
          split at hru
          · rename_i hc
            rw [if_pos hc]
            refine (hru.mono ext.ki ext.imm (fun b1 hb1 => ?_)).congr rfl
            have := hsep j b1 hc.1 hb1
            exact s5 b1 this.2 this.1
          · rename_i hc
            rw [if_neg hc]
            exact hru.mono ext.ki ext.imm)
  exact ⟨w', ⟨blk, i.size, len', cap', nest'⟩, hrun, t1, t2⟩
end Go.Gn

namespace Go.Gn
open Go
theorem view_all {α : Type} (xs : List α) : view xs 0 xs.length = xs := by simp [view]
theorem els_whole {imm S : Nat → Prop} {w : World} {m : Meta} {sz k c0 : Nat} {xs : List (List D)} (h : RepRow imm w m sz k c0 xs) (hs : ∀ b, imm b → S b) (hn : ∀ j b, j < k → m.nest j = some b → S b) :
    Els w sz (fun _ _ d u => RepD S w d u) xs (.slice (m.blk.map mk0) m.len m.cap) := by
  have := els_row h hs hn (lo := 0) (len := xs.length) (cap := m.cap) (A := m.blk.map mk0) (fun hp => by
    obtain ⟨h1, h2, h3, h4, h5, _⟩ := h
    cases hb : m.blk with
    | none => have := h5 hb; omega
    | some b => exact ⟨b, rfl, by simp [mk0]⟩) (by omega)
  rw [view_all] at this
  rwa [h.2.1]
theorem take_plain {w0 : World} {c : Cx} {os : List Obj} {w : World} (h : Store w0 c os w) {own : Bool} {sz : Nat} {x : AV} {v : Value} (hx : RepAV c w x v) {ys : List (List D)} {os' : List Obj} (ht : takeEls own sz x os = some (ys, none, os')) :
    ∃ c', Frz w0 c os w c' os' ∧ Els w sz (fun _ _ d u => RepD c'.imm w d u) ys v := by
  have refl : Frz w0 c os w c os := ⟨h, Ext.refl _ _, rfl, fun _ _ _ _ _ hx => hx⟩
  cases x <;> simp only [takeEls, reduceCtorEq] at ht
  case sl m xs =>
    cases hx with
    | sl _ _ _ hr =>
    cases m
    · simp only at ht
      split at ht
      · rename_i hs
        cases ht
        exact ⟨c, refl, (els_repD hr hs).scrub⟩
      · cases ht
    · simp only at ht
      split at ht
      · rename_i hs
        cases ht
        exact ⟨c, refl, els_repD hr hs⟩
      · cases ht
  case nils =>
    cases ht
    cases hx
    exact ⟨c, refl, els_nil _ _⟩
  case hw o =>
    cases hx with
    | hw _ m hm =>
    split at ht
    · rename_i s' c0 xs hxs
      split at ht
      · rename_i hs
        cases ht
        subst hs
        obtain ⟨m', hm', hr⟩ := h.obj o _ hxs (by simp)
        rw [hm] at hm'; cases hm'
        exact ⟨c, refl, els_whole hr (fun _ h => h) (fun j b hj _ => absurd hj (Nat.not_lt_zero j))⟩
      · cases ht
    · rename_i s' k c0 xs hxs
      split at ht
      · rename_i hs
        cases ht
        subst hs
        obtain ⟨m', hm', hr⟩ := h.obj o _ hxs (by simp)
        rw [hm] at hm'; cases hm'
        exact ⟨c, refl, (els_whole hr (S := fun _ => True) (fun _ _ => trivial) (fun _ _ _ _ => trivial)).scrub⟩
      · cases ht
    · rename_i s' xs hxs
      split at ht
      · rename_i hs
        cases ht
        subst hs
        obtain ⟨m', hm', hr⟩ := h.obj o _ hxs (by simp)
        rw [hm] at hm'; cases hm'
        exact ⟨c, refl, els_whole hr.1 (fun _ h => h) (fun j b hj _ => absurd hj (Nat.not_lt_zero j))⟩
      · cases ht
    · cases ht
  case hs o lo len =>
    cases hx with
    | hs _ _ _ A cap m hm hc hA =>
    split at ht
    · rename_i s' c0 xs hxs
      split at ht
      · rename_i hs
        cases ht
        obtain ⟨rfl, hl⟩ := hs
        obtain ⟨m', hm', hr⟩ := h.obj o _ hxs (by simp)
        rw [hm] at hm'; cases hm'
        exact ⟨c, refl, els_row hr (fun _ h => h) (fun j b hj _ => absurd hj (Nat.not_lt_zero j)) hA hl⟩
      · cases ht
    · rename_i s' k c0 xs hxs
      split at ht
      · rename_i hs
        cases ht
        obtain ⟨rfl, hl⟩ := hs
        obtain ⟨m', hm', hr⟩ := h.obj o _ hxs (by simp)
        rw [hm] at hm'; cases hm'
        exact ⟨c, refl, (els_row hr (S := fun _ => True) (fun _ _ => trivial) (fun _ _ _ _ => trivial) hA hl).scrub⟩
      · cases ht
    · rename_i s' xs hxs
      split at ht
      · rename_i hs
        cases ht
        obtain ⟨rfl, hl⟩ := hs
        obtain ⟨m', hm', hr⟩ := h.obj o _ hxs (by simp)
        rw [hm] at hm'; cases hm'
        exact ⟨c, refl, els_row hr.1 (fun _ h => h) (fun j b hj _ => absurd hj (Nat.not_lt_zero j)) hA hl⟩
      · cases ht
    · rename_i cs hcs
      split at ht
      · rename_i hlo
        obtain ⟨rfl, hcl⟩ := hlo
        obtain ⟨m', hm', b, vs, e, hb, hh, hrs⟩ := h.obj o _ hcs (by simp)
        rw [hm] at hm'; cases hm'
        have fin : ∀ {ys os'}, (match freezeL cs os with | some (ds, os') => some (chunks sz len ds, (none : Option (Nat × Nat)), os') | none => none) = some (ys, none, os') → ∃ c', Frz w0 c os w c' os' ∧ Els w sz (fun _ _ d u => RepD c'.imm w d u) ys (.slice A len cap) := by
          intro ys os' ht
          split at ht
          · rename_i ds os2 hds
            cases ht
            obtain ⟨c', fz, hdl, hdr⟩ := freezeL_rep h hrs hds
            obtain ⟨g1, g2⟩ := chunks_get sz len ds (by omega)
            refine ⟨c', fz, ?_⟩
            have := els_of (w := w) (sz := sz) (R := fun _ _ d u => RepD c'.imm w d u) (ys := chunks sz len ds) (b := b) (off := 0) (cap := cap) (A := A) (fun hp => by
              obtain ⟨b', hb', hA'⟩ := hA (by omega)
              rw [hb] at hb'; cases hb'
              simpa using hA') (fun j el hj => by
              obtain ⟨g3, g4⟩ := g2 j el hj
              refine ⟨g3, fun i d hi => ?_⟩
              have hil : i < sz := by rw [← g3]; exact (List.getElem?_eq_some_iff.1 hi).1
              rw [g4 i hil] at hi
              obtain ⟨u, hu, hur⟩ := hdr _ _ hi
              refine ⟨u, ?_, hur.one, hur⟩
              unfold cellAt World.cell?
              simp only [hh]
              simpa using hu)
            rwa [g1] at this
          · cases ht
        split at ht
        · split at ht
          · rename_i o' _
            split at ht
            · cases ht
            · split at ht
              · split at ht
                · cases ht
                · cases ht
              · cases ht
          · cases ht
        · exact fin ht
      · cases ht
    · cases ht
theorem append_types {P : Program} {w : World} {at_ : Array TypeId} {t t1 ty e e1 : TypeId} (h0 : at_[0]? = some t) (h1 : at_[1]? = some t1) (hu : P.underlying t = some (.slice e)) (hu1 : P.underlying t1 = some (.slice e1)) (s x : Value) :
    (Builtin.append_ at_ ty #[s, x]).run P w = (Builtin.append_ #[t, t] ty #[s, x]).run P w := by
  cases s <;> simp [Builtin.append_, h0, h1, run_underlying hu, run_underlying hu1]
theorem take_own {w0 : World} {c : Cx} {os : List Obj} {w : World} (h : Store w0 c os w) {own : Bool} {sz : Nat} {x : AV} {v : Value} (hx : RepAV c w x v) {ys : List (List D)} {c1 o' : Nat} {os' : List Obj} (ht : takeEls own sz x os = some (ys, some (c1, o'), os')) :
    ∃ mo, c.μ o' = some mo ∧ ys.length = 1 ∧ os' = os.set o' .dead ∧ (∀ b, mo.blk = some b → Owns c.μ os o' none b) ∧ o' < os.length ∧
      ∀ k nest', nest' k = mo.blk → Els w sz (fun j q d u => if k + j < k + 1 ∧ q = c1 then RepN c.imm w ⟨none, 0, 0, 0, nest'⟩ (k + j) d u else RepD c.imm w d u) ys v := by
  cases x <;> simp only [takeEls, reduceCtorEq] at ht
  case sl m xs => cases m <;> simp only at ht <;> split at ht <;> cases ht
  case nils => cases ht
  case hw o => split at ht <;> first | (split at ht <;> cases ht) | cases ht
  case hs o lo len =>
    cases hx with
    | hs _ _ _ A cap m hm hc hA =>
    split at ht
    · split at ht <;> cases ht
    · split at ht <;> cases ht
    · split at ht <;> cases ht
    · rename_i cs hcs
      split at ht
      · rename_i hlo
        obtain ⟨rfl, hcl⟩ := hlo
        obtain ⟨m', hm', b, vs, e, hb, hh, hrs⟩ := h.obj o _ hcs (by simp)
        rw [hm] at hm'; cases hm'
        split at ht
        · rename_i c0 _
          split at ht
          · rename_i o2 ho2
            split at ht
            · cases ht
            · rename_i hne
              split at ht
              · rename_i c0' zs hzs
                split at ht
                · rename_i ds hds
                  cases ht
                  obtain ⟨vo, hvo, hro⟩ := hrs.get _ _ ho2
                  cases hro with
                  | hw _ mo hmo =>
                  have hrow : RepRow c.imm w mo 1 0 c0' zs := by
                    obtain ⟨m', hm', hr⟩ := h.obj _ _ hzs (by simp)
                    rw [hmo] at hm'; cases hm'
                    exact hr
                  refine ⟨mo, hmo, rfl, rfl, fun b' hb' => ⟨mo, hmo, by rw [hzs]; exact hb'⟩, getD_lt hzs (by simp), fun k nest' hn => ?_⟩
                  obtain ⟨hdl, hdg⟩ := toDs_get hds
                  have hdl' : ds.length = sz := by simp at hdl; omega
                  have hc1 : c1 < cs.length := (List.getElem?_eq_some_iff.1 ho2).1
                  obtain ⟨b', hb', hA'⟩ := hA (by omega)
                  rw [hb] at hb'; cases hb'
                  refine els_of (ys := [ds.set c1 (.sl zs)]) (b := b) (off := 0) (fun _ => by simpa using hA') (fun j el hj => ?_)
                  have hj0 : j = 0 := by have := (List.getElem?_eq_some_iff.1 hj).1; simp at this; omega
                  subst hj0
                  simp at hj; subst hj
                  refine ⟨by simpa using hdl', fun i d hi => ?_⟩
                  by_cases hic : i = c1
                  · subst hic
                    rw [List.getElem?_set_self (by omega)] at hi
                    cases hi
                    refine ⟨.slice (mo.blk.map mk0) mo.len mo.cap, ?_, rfl, ?_⟩
                    · unfold cellAt World.cell?
                      simp only [hh]
                      simpa using hvo
                    · rw [if_pos ⟨by omega, rfl⟩]
                      obtain ⟨o1, o2, o3, o4, o5, o6, o7⟩ := hrow
                      refine ⟨zs, rfl, ?_⟩
                      by_cases hmb : ∃ b', mo.blk = some b'
                      · obtain ⟨b', hmb⟩ := hmb
                        obtain ⟨vs1, e1, hh1, hs1, hr1⟩ := o7 b' hmb
                        refine .inr ⟨b', mo.cap, vs1, e1, by simp [hn, hmb], by rw [hmb, o2]; rfl, hh1, by omega, by omega, fun i2 el2 hi2 => ?_⟩
                        have hl2 := o6 el2 (List.mem_of_getElem? hi2)
                        obtain ⟨d2, rfl⟩ := List.length_eq_one_iff.1 hl2
                        obtain ⟨v2, hv2, hd2⟩ := hr1 i2 _ 0 d2 hi2 rfl
                        rw [if_neg (by omega)] at hd2
                        exact ⟨d2, v2, rfl, by simpa using hv2, hd2⟩
                      · have hmb : mo.blk = none := by rcases h : mo.blk with _ | b'
                                                       · rfl
                                                       · exact absurd ⟨b', h⟩ hmb
                        have := o5 hmb
                        have hy0 : zs = [] := List.eq_nil_of_length_eq_zero (by omega)
                        exact .inl ⟨by simp [hn, hmb], hy0, none, mo.cap, by rw [hmb, show mo.len = 0 by omega]; rfl⟩
                  · rw [List.getElem?_set_ne (fun h => hic h.symm)] at hi
                    obtain ⟨a, ha, had⟩ := hdg i d hi
                    rw [List.getElem?_set_ne (fun h => hic h.symm)] at ha
                    obtain ⟨u, hu, hur⟩ := hrs.get i a ha
                    have hd := toD_rep hur had
                    refine ⟨u, ?_, hd.one, by rw [if_neg (fun h => hic h.2)]; exact hd⟩
                    unfold cellAt World.cell?
                    simp only [hh]
                    simpa using hu
                · cases ht
              · cases ht
          · cases ht
        · split at ht <;> cases ht
      · cases ht
    · cases ht
theorem rep_row_nil (c : Cx) (w : World) (sz c0 : Nat) : RepRow c.imm w ⟨none, sz, 0, 0, fun _ => none⟩ sz 0 c0 [] :=
  ⟨rfl, rfl, Nat.le_refl _, ⟨Nat.le_refl _, fun _ _ _ => rfl⟩, fun _ => rfl, (fun el h => by cases h), (fun b h => by cases h)⟩
theorem set_dead (os : List Obj) (o q : Nat) : (os.set o .dead).getD q .dead = os.getD q .dead ∨ (os.set o .dead).getD q .dead = .dead := by
  rw [getD_set]; split
  · exact .inr rfl
  · exact .inl rfl
section
variable {P : Program} {c : Cx} {w w0 : World} {nt : Nat} {ts : Ts} {a : Act} {os : List Obj} (hf : Frm c w nt ts a) (hst : Store w0 c os w)
include hf hst
theorem d_app {o : Oper} {t t1 e e1 : TypeId} {cl : Call} {s x : Operand} {S' X' : X} {i : TypeInfo} {zs : List AV} {own : Bool} {nb : Nat} {v : AV} {os' : List Obj} (hnb : c.μ nb = none) (hu : P.underlying t = some (.slice e)) (hu1 : P.underlying t1 = some (.slice e1)) (hi : P.info? e = some i) (hz : zs? P e = some zs) (hzl : zs.length = i.size)
    (ho : o.op = .call cl) (hcl : cl.callee = .builtin .append) (h0 : cl.argTypes[0]? = some t) (h1 : cl.argTypes[1]? = some t1) (hargs : cl.args.toList = [s, x]) (hs : cX s = some S') (hx : cX x = some X')
    (hv : appAV own i.size i.bytes nb (getX ts S') (getX ts X') os = some (v, os')) : Does P o a w w0 c nb v os' := by
  obtain ⟨i', z, hi', hzz, hr⟩ := zs_rep (c := c) (w := w) hz
  rw [hi] at hi'; cases hi'
  have hzs : z.cells.size = i.size := by have := hr.length; simp at this; omega
  have hargs' : cl.args = #[s, x] := by cases hcl' : cl.args; simp_all
  have r1 := rep_X hf hs
  have r2 := rep_X hf hx
  have hrun : ∀ v' w', (Builtin.append_ #[t, t] t #[a.eval s, a.eval x]).run P w = .ok v' w' → (execOp a.eval o).run P w = .ok (.value v') w' := by
    intro v' w' h
    rw [← append_types h0 h1 hu hu1] at h
    have h : ∀ ty, (Builtin.append_ cl.argTypes ty #[a.eval s, a.eval x]).run P w = .ok v' w' := fun _ => h
    simp [execOp, ho, resolve, hcl, invoke, builtin, hargs', h]
  generalize getX ts S' = aS at r1 hv
  generalize getX ts X' = ax at r2 hv
  generalize a.eval s = vs at r1 hrun
  generalize a.eval x = vx at r2 hrun
  unfold appAV at hv
  split at hv
  · cases hv
  · rename_i ys c? os1 htake
    split at hv
    · cases hv
    · rename_i hby
      cases aS <;> simp only [reduceCtorEq] at hv
      case nils =>
        cases r1
        split at hv
        · rename_i hbytes
          cases hv
          rcases c? with _ | ⟨c1, o'⟩
          · obtain ⟨c', fz, hels⟩ := take_plain hst r2 htake
            obtain ⟨w', m', h1, h2, h3⟩ := app_step (ys := ys) fz.st (by rw [fz.mu]; exact hnb) t t e i z hu hi hzz hzs hby (rep_row_nil c' w i.size 0) os1 (fun _ => .inl rfl) 0 0 (fun _ => none) (fun _ _ _ => False) (fun _ _ _ _ h => h.elim) (fun b hb => by cases hb) (fun j b hj _ => absurd hj (Nat.not_lt_zero j)) (fun j hj => absurd hj (Nat.not_lt_zero j)) ⟨Nat.zero_le _, fun _ _ _ => rfl⟩ (fun j hj => absurd hj (Nat.not_lt_zero j)) (hels.mono fun j q d u h => by rw [if_neg (by simp)]; exact h) (by simpa using hbytes)
            refine ⟨_, w', _, _, hrun _ _ h1, .inl rfl, h2, fz.ext.trans h3, .hw nb m' (by simp [Cx.with]), fun q hq => ?_⟩
            rcases with_new q hq with h | h
            · left; rw [fz.mu] at h; exact h
            · exact .inr h
          · obtain ⟨mo, hmo, hyl, rfl, hown, hol, hels⟩ := take_own hst r2 htake
            obtain ⟨w', m', h1, h2, h3⟩ := app_step (ys := ys) hst hnb t t e i z hu hi hzz hzs hby (rep_row_nil c w i.size c1) (os.set o' .dead) (set_dead os o') 1 c1 (fun j => if j = 0 then mo.blk else none) (fun l q lq => l = some 0 ∧ q = o' ∧ lq = none) (fun _ _ _ _ h h' => h.1.trans h'.1.symm) (fun b hb => by cases hb) (fun j b hj hb => by
                have : j = 0 := by omega
                subst this
                exact ⟨o', none, hown b (by simpa using hb), by rw [getD_set, if_pos ⟨rfl, hol⟩], rfl, rfl, rfl⟩) (fun j hj => absurd hj (Nat.not_lt_zero j)) ⟨by simp [hyl], fun _ (j : Nat) hj => if_neg (Nat.ne_of_gt hj)⟩ (fun j hj => absurd hj (Nat.not_lt_zero j)) (by simpa using hels 0 (fun j => if j = 0 then mo.blk else none) rfl) (by simpa using hbytes)
            exact ⟨_, w', _, _, hrun _ _ h1, .inl rfl, h2, h3, .hw nb m' (by simp [Cx.with]), with_new⟩
        · cases hv
      case hw q =>
        cases r1 with
        | hw _ m hm =>
        split at hv
        · rename_i s' k c0 xs hxs
          split at hv
          · rename_i hc
            obtain ⟨rfl, hbytes⟩ := hc
            split at hv
            · rename_i c1
              split at hv
              · rename_i hc1
                obtain ⟨hne, rfl, hcc⟩ := hc1
                cases hv
                obtain ⟨c1, o'⟩ := c1
                obtain ⟨mo, hmo, hyl, rfl, hown, hol, hels⟩ := take_own hst r2 htake
                rw [getD_set] at hxs
                split at hxs
                · cases hxs
                · obtain ⟨m', hm', hrow⟩ := hst.obj q _ hxs (by simp)
                  rw [hm] at hm'; cases hm'
                  have hql := getD_lt hxs (by simp)
                  have hqd : ((os.set o' .dead).set q .dead).getD q .dead = .dead := by rw [getD_set, if_pos ⟨rfl, by simpa using hql⟩]
                  have hod : ((os.set o' .dead).set q .dead).getD o' .dead = .dead := by
                    rcases set_dead (os.set o' .dead) q o' with h | h
                    · rw [h, getD_set, if_pos ⟨rfl, hol⟩]
                    · exact h
                  obtain ⟨w', m', h1, h2, h3⟩ := app_step (ys := ys) hst hnb t t e i z hu hi hzz hzs hby hrow ((os.set o' .dead).set q .dead) (fun p => (set_dead (os.set o' .dead) q p).elim (fun h => by rw [h]; exact set_dead os o' p) .inr)
                    (xs.length + 1) c1 (fun j => if j = xs.length then mo.blk else if j < xs.length then m.nest j else none) (fun l p lq => (l = some xs.length ∧ p = o' ∧ lq = none) ∨ (l ≠ some xs.length ∧ p = q ∧ lq = l))
                    (fun l l' p lq h h' => by
                      rcases h with ⟨h1, h2, h3⟩ | ⟨h1, h2, h3⟩ <;> rcases h' with ⟨h4, h5, h6⟩ | ⟨h4, h5, h6⟩
                      · exact h1.trans h4.symm
                      · exact absurd (h2.symm.trans h5) hne
                      · exact absurd (h5.symm.trans h2) hne
                      · exact h3.symm.trans h6)
                    (fun b hb => ⟨q, none, ⟨m, hm, by rw [hxs]; exact hb⟩, hqd, .inr ⟨by simp, rfl, rfl⟩⟩)
                    (fun j b hj hb => by
                      by_cases hjl : j = xs.length
                      · subst hjl
                        rw [if_pos rfl] at hb
                        exact ⟨o', none, hown b hb, hod, .inl ⟨rfl, rfl, rfl⟩⟩
                      · rw [if_neg hjl, if_pos (by omega)] at hb
                        exact ⟨q, some j, ⟨m, hm, by rw [hxs]; exact ⟨by omega, hb⟩⟩, hqd, .inr ⟨by simpa using hjl, rfl, rfl⟩⟩)
                    (fun j hj => by rw [if_neg (by omega), if_pos hj]) ⟨by omega, fun _ j hj => by rw [if_neg (by omega), if_neg (by omega)]⟩ (fun j hj => ⟨by omega, hcc.elim (fun h => absurd hj (by rw [h]; exact Nat.not_lt_zero j)) (fun h => h.symm)⟩) (hels xs.length _ (by simp)) hbytes
                  exact ⟨_, w', _, _, hrun _ _ h1, .inl rfl, h2, h3, .hw nb m' (by simp [Cx.with]), with_new⟩
              · cases hv
            · cases hv
              obtain ⟨c', fz, hels⟩ := take_plain hst r2 htake
              have hm1 : c'.μ q = some m := by rw [fz.mu]; exact hm
              obtain ⟨m', hm', hrow⟩ := fz.st.obj q _ hxs (by simp)
              rw [hm1] at hm'; cases hm'
              have hql := getD_lt hxs (by simp)
              have hqd : (os1.set q .dead).getD q .dead = .dead := by rw [getD_set, if_pos ⟨rfl, hql⟩]
              obtain ⟨w', m', h1, h2, h3⟩ := app_step (ys := ys) fz.st (by rw [fz.mu]; exact hnb) t t e i z hu hi hzz hzs hby hrow (os1.set q .dead) (set_dead os1 q) k c0 m.nest (fun l p lq => p = q ∧ lq = l) (fun _ _ _ _ h h' => h.2.symm.trans h'.2)
                (fun b hb => ⟨q, none, ⟨m, hm1, by rw [hxs]; exact hb⟩, hqd, rfl, rfl⟩) (fun j b hj hb => ⟨q, some j, ⟨m, hm1, by rw [hxs]; exact ⟨hj, hb⟩⟩, hqd, rfl, rfl⟩) (fun _ _ => rfl) ⟨by have := hrow.2.2.2.1.1; omega, hrow.2.2.2.1.2⟩ (fun _ _ => ⟨Iff.rfl, rfl⟩)
                (hels.mono fun j q d u h => by rw [if_neg (by have := hrow.2.2.2.1.1; omega)]; exact h) hbytes
              refine ⟨_, w', _, _, hrun _ _ h1, .inl rfl, h2, fz.ext.trans h3, .hw nb m' (by simp [Cx.with]), fun q hq => ?_⟩
              rcases with_new q hq with h | h
              · left; rw [fz.mu] at h; exact h
              · exact .inr h
          · cases hv
        · cases hv
end
end Go.Gn

