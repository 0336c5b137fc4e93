/- Part 34 of a proof: an evaluator of the program, proved sound, and what it answers. -/
import Derived.Test.YtkgpnfeabojhcaaGreatA7
import Derived.Test.YtkgpnfeabojhcaaGreatA11
import Derived.Test.YtkgpnfeabojhcaaGreatA19
import Derived.Test.YtkgpnfeabojhcaaGreatA33
import Derived.WalkKit
import Derived.ProofKit
import Derived.OpenShut
import Derived.ShutString
import Derived.ChangeOld
import Derived.Below
set_option linter.all false
namespace Go.Gn
open Go Go.RowKit Go.Proofs Go.Shelf Go.Lib
theorem RepN.at {imm : Nat → Prop} {w : World} {m m' : Meta} {j j' : Nat} {d : D} {v : Value} (h : RepN imm w m j d v) (hn : m'.nest j' = m.nest j) : RepN imm w m' j' d v := by
 unfold RepN at h ⊢
 rw [hn]; exact h
theorem nest_of {imm imm' : Nat → Prop} {w w' : World} {mo m' : Meta} {c0 j : Nat} {ys : List (List D)} (h : RepRow imm w mo 1 0 c0 ys) (hn : m'.nest j = mo.blk) (hk : Keep imm w w') (hs : ∀ b, imm b → imm' b)
  (hb : ∀ b, mo.blk = some b → w'.heap[b]? = w.heap[b]?) : RepN imm' w' m' j (.sl ys) (.slice (mo.blk.map mk0) mo.len mo.cap) := by
 obtain ⟨o1, o2, o3, o4, o5, o6, o7⟩ := h
 refine ⟨ys, rfl, ?_⟩
 cases hmb : mo.blk with
 | some b' =>
  obtain ⟨vs1, e1, hh1, hs1, hr1⟩ := o7 b' hmb
  refine .inr ⟨b', mo.cap, vs1, e1, by rw [hn, hmb], by rw [o2]; rfl, (hb b' hmb).trans hh1, by omega, by omega, fun i2 el2 hi2 => ?_⟩
  have hl2 := o6 el2 (List.mem_of_getElem? hi2)
  obtain ⟨d2, rfl⟩ := List.length_eq_one_iff.1 hl2
  obtain ⟨v2, hv2, hd2⟩ := hr1 i2 _ 0 d2 hi2 rfl
  rw [if_neg (by omega)] at hd2
  exact ⟨d2, v2, rfl, by simpa using hv2, hd2.mono hk hs⟩
 | none =>
  have := o5 hmb
  have hy0 : ys = [] := List.eq_nil_of_length_eq_zero (by omega)
  exact .inl ⟨by rw [hn, hmb], hy0, none, mo.cap, by rw [show mo.len = 0 by omega]; rfl⟩
theorem good_insert : Good Tryz.prog (fun _ => insertX 40) 205 false := by
 unfold Good
 rw [if_neg (by simp)]
 intro args os r os' h c w vals hst hdom hvals
 simp only [insertX] at h
 split at h
 rotate_left
 ·cases h
 rename_i i k c0 xs s c2 ys
 split at h
 rotate_left
 ·cases h
 rename_i hc
 obtain ⟨hi0, hil, hk, hc0, hbig⟩ := hc
 subst hk
 cases h
 obtain ⟨i, rfl⟩ : ∃ i' : Nat, i = (i' : Int) := ⟨i.toNat, by omega⟩
 have hil : i ≤ xs.length := by omega
 rw [Int.toNat_natCast]
 cases hvals with
 | cons _ v0 _ vs hv0 hvs =>
 cases hvs with
 | cons _ v1 _ vs hv1 hvs =>
 cases hvs with
 | cons _ v2 _ vs hv2 hvs =>
 cases hvs
 cases hv1
 obtain ⟨m0, hm0, rfl⟩ : ∃ m0, c.μ 0 = some m0 ∧ v0 = .slice (m0.blk.map mk0) m0.len m0.cap := by
  cases hv0 with | hw _ m hm => exact ⟨m, hm, rfl⟩
 obtain ⟨m1, hm1, A, cap2, rfl, hc2, hA⟩ : ∃ m1, c.μ 1 = some m1 ∧ ∃ A cap2, v2 = .slice A 1 cap2 ∧ 1 ≤ cap2 ∧ ∃ b, m1.blk = some b ∧ A = some ⟨b, 0 * m1.sz, none⟩ := by
  cases hv2 with | hs _ _ _ A cap m hm hc h => exact ⟨m, hm, A, cap, rfl, hc, h (by omega)⟩
 obtain ⟨vb, hvb, rfl⟩ := hA
 have hrow : RepRow c.imm w m0 2 xs.length c0 xs := by
  obtain ⟨m, hm, hr⟩ := hst.obj 0 _ rfl (by simp)
  rw [hm0] at hm; cases hm; exact hr
 obtain ⟨vb', bvs, be, hvb', hbh, hbr⟩ : ∃ b vs e, m1.blk = some b ∧ w.heap[b]? = some (.cells vs.toArray e (0, 0)) ∧ RepAVs c w [.str s, .hw 2] vs := by
  obtain ⟨m, hm, hr⟩ := hst.obj 1 _ rfl (by simp)
  rw [hm1] at hm; cases hm; exact hr
 rw [hvb] at hvb'; cases hvb'
 obtain ⟨m2, hm2, rfl⟩ : ∃ m2, c.μ 2 = some m2 ∧ bvs = [.string s, .slice (m2.blk.map mk0) m2.len m2.cap] := by
  cases hbr with
  | cons _ v _ vs h1 h2 =>
  cases h2 with
  | cons _ v' _ vs' h3 h4 =>
  cases h4
  cases h1
  cases h3 with | hw _ m hm => exact ⟨m, hm, rfl⟩
 have hrow2 : RepRow c.imm w m2 1 0 c2 ys := by
  obtain ⟨m, hm, hr⟩ := hst.obj 2 _ rfl (by simp)
  rw [hm2] at hm; cases hm; exact hr
 obtain ⟨r1, r2, r3, r4, r5, r6, r7⟩ := hrow
 have own0 : ∀ b, m0.blk = some b → Owns c.μ [.row 2 xs.length c0 xs, .box [.str s, .hw 2], .row 1 0 c2 ys] 0 none b := fun b hb => ⟨m0, hm0, hb⟩
 have own0n : ∀ p b, p < xs.length → m0.nest p = some b → Owns c.μ [.row 2 xs.length c0 xs, .box [.str s, .hw 2], .row 1 0 c2 ys] 0 (some p) b := fun p b hp hb => ⟨m0, hm0, hp, hb⟩
 have own1 : Owns c.μ [.row 2 xs.length c0 xs, .box [.str s, .hw 2], .row 1 0 c2 ys] 1 none vb := ⟨m1, hm1, hvb⟩
 have own2 : ∀ b, m2.blk = some b → Owns c.μ [.row 2 xs.length c0 xs, .box [.str s, .hw 2], .row 1 0 c2 ys] 2 none b := fun b hb => ⟨m2, hm2, hb⟩
 have hcur : ∃ (cur : Array Value) (e : TypeId), ∀ b, m0.blk = some b → w.heap[b]? = some (.cells cur e (0, 0)) ∧ cur.size = m0.cap * 2 ∧
   ∀ (j : Nat) (el : List D) (i : Nat) (d : D), xs[j]? = some el → el[i]? = some d → ∃ v, cur[j * 2 + i]? = some v ∧ (if j < xs.length ∧ i = c0 then RepN c.imm w m0 j d v else RepD c.imm w d v) := by
  cases hb : m0.blk with
  | none => exact ⟨#[], 0, fun b h => by cases h⟩
  | some b =>
   obtain ⟨vs, e, h1, h2, h3⟩ := r7 b hb
   exact ⟨vs, e, fun b' hb' => by cases hb'; exact ⟨h1, h2, h3⟩⟩
 obtain ⟨cur, e, hcur⟩ := hcur
 have hnone : m0.blk = none → xs = [] := fun h => List.eq_nil_of_length_eq_zero (by have := r5 h; omega)
 have hcl : (cur.toList.take (xs.length * 2)).length = xs.length * 2 := by
  cases hb : m0.blk with
  | none => rw [hnone hb]; simp
  | some b =>
   obtain ⟨h1, h2, _⟩ := hcur b hb
   simp; omega
 have cget : ∀ j v, (cur.toList.take (xs.length * 2))[j]? = some v → cur[j]? = some v := fun j v hj => by
  rw [List.getElem?_take] at hj
  split at hj
  ·simpa using hj
  ·cases hj
 have cget2 : ∀ j, j < xs.length * 2 → (cur.toList.take (xs.length * 2))[j]? = cur[j]? := fun j hj => by
  rw [List.getElem?_take, if_pos hj]; simp
 have hone : ∀ v ∈ cur.toList.take (xs.length * 2), v.oneCell' = true := fun v hv => by
  obtain ⟨q, hq⟩ := List.getElem?_of_mem hv
  have hql : q < xs.length * 2 := by rw [← hcl]; exact (List.getElem?_eq_some_iff.1 hq).1
  cases hb : m0.blk with
  | none => rw [hnone hb] at hql; simp at hql
  | some b =>
   obtain ⟨h1, h2, h3⟩ := hcur b hb
   have hjl : q / 2 < xs.length := by omega
   obtain ⟨el, hel⟩ : ∃ el, xs[q / 2]? = some el := ⟨_, List.getElem?_eq_getElem hjl⟩
   have hell := r6 el (List.mem_of_getElem? hel)
   obtain ⟨d, hd⟩ : ∃ d, el[q % 2]? = some d := ⟨_, List.getElem?_eq_getElem (by omega)⟩
   obtain ⟨v', hv', hr⟩ := h3 _ _ _ _ hel hd
   rw [show q / 2 * 2 + q % 2 = q by omega, cget q v hq] at hv'
   cases hv'
   split at hr
   ·obtain ⟨ys', _, hr | hr⟩ := hr
    ·obtain ⟨_, _, A, cap, rfl⟩ := hr; rfl
    ·obtain ⟨_, _, _, _, _, rfl, _⟩ := hr; rfl
   ·exact hr.one
 have hvbn : m0.blk ≠ some vb := fun e => by
  have := (hst.uniq _ _ _ _ _ (own0 _ e) own1).1
  omega
 rw [show (0 : Nat) * m1.sz = 0 by simp, r2]
 refine (insert_all (cur := cur) (va := #[.string s, .slice (m2.blk.map mk0) m2.len m2.cap]) (cs := cur.toList.take (xs.length * 2)) (vs := [.string s, .slice (m2.blk.map mk0) m2.len m2.cap]) hil (by omega) r5 (by omega) (by omega) (fun b hb => ⟨(hcur b hb).1, (hcur b hb).2.1⟩) hcl (fun j v hj _ => cget j v hj) hone hbh hvbn rfl (fun j v hj => by simpa using hj) (fun v hv => by
  simp only [List.mem_cons, List.not_mem_nil, or_false] at hv
  rcases hv with rfl | rfl <;> rfl)).mono ?_
 rintro en w' ⟨v, rfl, hR⟩
 obtain ⟨⟨g, cap, arr, e', rfl, hcap, hg, hsz, hA, hB, hC, hgo⟩, hsize, hsame, hother⟩ := hR
 generalize hos : [Obj.row 2 xs.length c0 xs, .box [.str s, .hw 2], .row 1 0 c2 ys] = os at hst own0 own0n own1 own2
 have hol : os.length = 3 := by rw [← hos]; rfl
 have hgl : g < w'.heap.size := (Array.getElem?_eq_some_iff.1 hg).1
 have hgown : ∀ p l, Owns c.μ os p l g → p = 0 ∧ l = none := fun p l ho => by
  rcases hgo with h | h
  ·have := hst.uniq _ _ _ _ _ ho (own0 g h); exact this
  ·have := (hst.lt _ _ _ ho).1; omega
 have hkeep : ∀ p l b', Owns c.μ os p l b' → ¬ (p = 0 ∧ l = none) → w'.heap[b']? = w.heap[b']? := fun p l b' ho hn =>
  hother b' (hst.lt _ _ _ ho).1 (fun e => hn (hst.uniq _ _ _ _ _ ho (own0 b' e)))
 let m3 : Meta := ⟨some g, 2, xs.length + 1, cap, fun p => if p < i then m0.nest p else if p = i then m2.blk else if p < xs.length + 1 then m0.nest (p - 1) else none⟩
 let c' : Cx := { c with μ := fun p => if p = 3 then some m3 else c.μ p }
 have key : ∀ p l b', Owns c'.μ [.dead, .box [.str s, .hw 2], .dead, .row 2 (xs.length + 1) 1 (xs.take i ++ [[.str s, .sl ys]] ++ xs.drop i)] p l b' →
   (p = 1 ∧ l = none ∧ Owns c.μ os 1 none b') ∨ (p = 3 ∧ l = none ∧ b' = g) ∨ (p = 3 ∧ ∃ q, l = some q ∧ ((q < i ∧ Owns c.μ os 0 (some q) b') ∨ (q = i ∧ Owns c.μ os 2 none b') ∨ (i < q ∧ Owns c.μ os 0 (some (q - 1)) b'))) := by
  rintro p l b' ⟨m, hm, ho⟩
  match p with
  | 0 => cases l <;> exact ho.elim
  | 1 =>
   have hm : c.μ 1 = some m := hm
   rw [hm1] at hm; cases hm
   cases l with
   | none =>
    have ho : m1.blk = some b' := ho
    rw [hvb] at ho; cases ho
    exact .inl ⟨rfl, rfl, own1⟩
   | some q => exact ho.elim
  | 2 => cases l <;> exact ho.elim
  | 3 =>
   have hm : some m3 = some m := hm
   cases hm
   cases l with
   | none => exact .inr (.inl ⟨rfl, rfl, by have ho : some g = some b' := ho; cases ho; rfl⟩)
   | some q =>
    obtain ⟨hq, hn⟩ : q < xs.length + 1 ∧ m3.nest q = some b' := ho
    refine .inr (.inr ⟨rfl, q, rfl, ?_⟩)
    simp only [m3] at hn
    by_cases h1 : q < i
    ·rw [if_pos h1] at hn; exact .inl ⟨h1, own0n q b' (by omega) hn⟩
    ·rw [if_neg h1] at hn
     by_cases h2 : q = i
     ·rw [if_pos h2] at hn; exact .inr (.inl ⟨h2, own2 b' hn⟩)
     ·rw [if_neg h2, if_pos hq] at hn
      exact .inr (.inr ⟨by omega, own0n (q - 1) b' (by omega) hn⟩)
  | p + 4 => cases l <;> exact ho.elim
 have hchg : ∀ b', m0.blk = some b' → ∃ o l, Owns c.μ os o l b' := fun b' h => ⟨0, none, own0 b' h⟩
 obtain ⟨s1, s2⟩ := hst.step (c' := c') (os' := [.dead, .box [.str s, .hw 2], .dead, .row 2 (xs.length + 1) 1 (xs.take i ++ [[.str s, .sl ys]] ++ xs.drop i)]) (w' := w') (fun b' => m0.blk = some b') ⟨rfl, rfl⟩ (fun _ h => h) (fun _ h => .inl h)
  (fun o m hm => by
   by_cases h3 : o = 3
   ·subst h3; exact absurd (hdom 3 (by rw [hm]; simp)) (by simp)
   ·exact ⟨m, by simp [c', h3, hm], m.le_refl⟩) hsize hsame (fun b' hb' hn => hother b' hb' hn) hchg
  (fun ext o x hx hxd => by
   match o with
   | 0 => exact absurd hx.symm hxd
   | 1 =>
    right
    refine ⟨by rw [← hos]; exact hx, rfl, fun l b' ho hb' => ?_⟩
    have := (hst.uniq _ _ _ _ _ ho (own0 b' hb')).1
    omega
   | 2 => exact absurd hx.symm hxd
   | 3 =>
    left
    have hx : Obj.row 2 (xs.length + 1) 1 (xs.take i ++ [[.str s, .sl ys]] ++ xs.drop i) = x := hx
    subst hx
    refine ⟨m3, by simp [c'], ?_⟩
    have hlen : (xs.take i ++ [[D.str s, .sl ys]] ++ xs.drop i).length = xs.length + 1 := by simp; omega
    refine ⟨rfl, hlen.symm, hcap, ⟨by omega, fun _ j hj => ?_⟩, (fun h => by cases h), fun el hel => ?_, fun b hb => ?_⟩
    ·simp only [m3]
     rw [if_neg (by omega), if_neg (by omega), if_neg (by omega)]
    ·rcases List.mem_append.1 hel with hel | hel
     ·rcases List.mem_append.1 hel with hel | hel
      ·exact r6 el (List.mem_of_mem_take hel)
      ·simp at hel; subst hel; rfl
     ·exact r6 el (List.mem_of_mem_drop hel)
    ·cases hb
     refine ⟨arr, e', hg, hsz, fun j el t d hj ht => ?_⟩
     have old : ∀ j0, j0 < xs.length → xs[j0]? = some el → (∀ t, t < 2 → arr[j * 2 + t]? = cur[j0 * 2 + t]?) → m3.nest j = m0.nest j0 → ∃ v, arr[j * 2 + t]? = some v ∧ (if j < xs.length + 1 ∧ t = 1 then RepN c.imm w' m3 j d v else RepD c.imm w' d v) := by
      intro j0 hj0 hx0 harr hnest
      have ht2 : t < 2 := by rw [← r6 el (List.mem_of_getElem? hx0)]; exact (List.getElem?_eq_some_iff.1 ht).1
      have hc1 : c0 = 1 := by
       rcases hc0 with h | h
       ·omega
       ·exact h
      cases hb : m0.blk with
      | none => rw [hnone hb] at hj0; simp at hj0
      | some b =>
       obtain ⟨v, hv, hr⟩ := (hcur b hb).2.2 j0 el t d hx0 ht
       refine ⟨v, by rw [harr t ht2]; exact hv, ?_⟩
       have hjl : j < xs.length + 1 := by rw [← hlen]; exact (List.getElem?_eq_some_iff.1 hj).1
       by_cases ht1 : t = 1
       ·rw [if_pos ⟨hj0, by omega⟩] at hr
        rw [if_pos ⟨hjl, ht1⟩]
        exact (hr.mono ext.ki (fun _ h => h) (fun b' hb' => hkeep 0 (some j0) b' (own0n j0 b' hj0 hb') (fun h => by cases h.2))).at hnest
       ·rw [if_neg (by omega)] at hr
        rw [if_neg (fun h => ht1 h.2)]
        exact hr.mono ext.ki (fun _ h => h)
     have hti : (xs.take i).length = i := by simp; omega
     by_cases h1 : j < i
     ·have hx0 : xs[j]? = some el := by
       rw [List.append_assoc, List.getElem?_append_left (by omega), List.getElem?_take, if_pos h1] at hj; exact hj
      exact old j (by omega) hx0 (fun t ht => by rw [hA _ (by omega), cget2 _ (by omega)]) (by simp only [m3]; rw [if_pos h1])
     ·by_cases h2 : j = i
      ·subst h2
       rw [List.append_assoc, List.getElem?_append_right (by omega), hti, Nat.sub_self] at hj
       have hj : some [D.str s, .sl ys] = some el := hj
       cases hj
       match t with
       | 0 =>
        cases ht
        exact ⟨.string s, by rw [hB 0 (by omega)]; rfl, by rw [if_neg (by omega)]; exact .str s⟩
       | 1 =>
        cases ht
        refine ⟨.slice (m2.blk.map mk0) m2.len m2.cap, by rw [hB 1 (by omega)]; rfl, ?_⟩
        rw [if_pos ⟨by omega, rfl⟩]
        exact nest_of hrow2 (by simp [m3]) ext.ki (fun _ h => h) (fun b hb => hkeep 2 none b (own2 b hb) (fun h => by cases h.1))
       | t + 2 => simp at ht
      ·have hx0 : xs[j - 1]? = some el := by
        rw [List.getElem?_append_right (by simp; omega)] at hj
        rw [List.getElem?_drop] at hj
        rw [← hj]; congr 1; simp; omega
       have hjl : j < xs.length + 1 := by rw [← hlen]; exact (List.getElem?_eq_some_iff.1 hj).1
       exact old (j - 1) (by omega) hx0 (fun t ht => by
        rw [show j * 2 + t = ((j - 1) * 2 + t) + 2 by omega, hC _ (by omega) (by omega), cget2 _ (by omega)]) (by simp only [m3]; rw [if_neg h1, if_neg h2, if_pos hjl])
   | o + 4 => exact absurd hx.symm hxd)
  (fun p l p' l' b' h1 h2 => by
   rcases key _ _ _ h1 with ⟨a1, a2, k1⟩ | ⟨a1, a2, k1⟩ | ⟨a1, q1, a2, k1⟩ <;> rcases key _ _ _ h2 with ⟨b1, b2, k2⟩ | ⟨b1, b2, k2⟩ | ⟨b1, q2, b2, k2⟩
   ·exact ⟨by omega, by rw [a2, b2]⟩
   ·rw [k2] at k1; have := (hgown _ _ k1).1; omega
   ·exfalso; rcases k2 with ⟨_, k2⟩ | ⟨_, k2⟩ | ⟨_, k2⟩ <;> (have := (hst.uniq _ _ _ _ _ k1 k2).1; omega)
   ·rw [k1] at k2; have := (hgown _ _ k2).1; omega
   ·exact ⟨by omega, by rw [a2, b2]⟩
   ·exfalso; rw [k1] at k2; rcases k2 with ⟨_, k2⟩ | ⟨_, k2⟩ | ⟨_, k2⟩ <;> (obtain ⟨z1, z2⟩ := hgown _ _ k2; first | exact absurd z1 (by omega) | cases z2)
   ·exfalso; rcases k1 with ⟨_, k1⟩ | ⟨_, k1⟩ | ⟨_, k1⟩ <;> (have := (hst.uniq _ _ _ _ _ k1 k2).1; omega)
   ·exfalso; rw [k2] at k1; rcases k1 with ⟨_, k1⟩ | ⟨_, k1⟩ | ⟨_, k1⟩ <;> (obtain ⟨z1, z2⟩ := hgown _ _ k1; first | exact absurd z1 (by omega) | cases z2)
   ·refine ⟨by omega, ?_⟩
    rw [a2, b2]
    congr 1
    rcases k1 with ⟨e1, k1⟩ | ⟨e1, k1⟩ | ⟨e1, k1⟩ <;> rcases k2 with ⟨e2, k2⟩ | ⟨e2, k2⟩ | ⟨e2, k2⟩ <;> (obtain ⟨z1, z2⟩ := hst.uniq _ _ _ _ _ k1 k2; first | omega | (simp only [Option.some.injEq] at z2; omega)))
  (fun p l b' h1 => by
   have fromOld : ∀ p l, Owns c.μ os p l b' → b' < w'.heap.size ∧ ¬ c.imm b' ∧ ¬ c.fix b' ∧ ¬ c.oth b' := fun p l ho => by
    obtain ⟨a1, a2⟩ := hst.lt _ _ _ ho
    exact ⟨by omega, a2⟩
   rcases key _ _ _ h1 with ⟨_, _, h1⟩ | ⟨_, _, h1⟩ | ⟨_, q1, _, h1⟩
   ·exact fromOld _ _ h1
   ·subst h1
    rcases hgo with h | h
    ·exact fromOld _ _ (own0 _ h)
    ·refine ⟨hgl, fun hh => ?_, fun hh => ?_, fun hh => ?_⟩
     ·have := hst.immlt _ hh; omega
     ·have := hst.fixlt _ hh; omega
     ·have := hst.othlt _ hh; omega
   ·rcases h1 with ⟨_, h1⟩ | ⟨_, h1⟩ | ⟨_, h1⟩ <;> exact fromOld _ _ h1)
  (fun b hb => Nat.lt_of_lt_of_le (hst.immlt b hb) hsize) hst.fixlt
 refine ⟨c', s1, rfl, rfl, fun _ h => h, fun o ho m hm => ⟨m, ?_, m.le_refl⟩, fun q hq => ?_, fun q hq hn => ?_, s2.kf, s2.ki, s2.ko, by rw [hol]; simp, ?_, rfl, fun q => ?_⟩
 ·have : o ≠ 3 := by omega
  simp [c', this, hm]
 ·by_cases h3 : q = 3
  ·subst h3; simp
  ·have := hdom q (by simpa [c', h3] using hq)
   simp at this ⊢; omega
 ·have : q ≠ 3 := by omega
  simp [c', this, hn]
 ·exact .hw 3 m3 (by simp [c'])
 ·match q with
  | 0 => rfl
  | 1 => rfl
  | 2 => rfl
  | 3 => rfl
  | q + 4 => simp [Obj.noBr]
end Go.Gn

namespace Go.Gn
open Go Go.RowKit Go.Proofs Go.Shelf Go.Lib
theorem run_clear_sliceN {P : Program} (w : World) (t e ty : TypeId) (z : Value) (ht : P.underlying t = some (.slice e)) (hv : ∀ w, (zeroValue e).run P w = .ok z w) (h1 : ∀ v ∈ z.cells.toList, v.oneCell' = true) (b o n c : Nat) (hn : 0 < n)
  (hc : ∀ j, j < (Builtin.zeroCells z.cells n).toList.length → (w.cell? ⟨b, o + j, none⟩).isSome = true) (hf : ∀ j, w.frozen? ⟨b, j, none⟩ = false) (h1' : ∀ v ∈ (Builtin.zeroCells z.cells n).toList, v.oneCell' = true) :
  (Builtin.clear_ #[t] ty #[.slice (some ⟨b, o, none⟩) n c]).run P w = .ok (.tuple #[]) (w.setCells b o (Builtin.zeroCells z.cells n).toList) := by
 have hst := run_storeCells_cells (P := P) b o (Builtin.zeroCells z.cells n).toList 0 w (by simpa using hc) (by intro j hj; exact hf _) h1'
 simp only [Nat.add_zero] at hst
 obtain ⟨m, rfl⟩ : ∃ m, n = m + 1 := ⟨n - 1, by omega⟩
 simp [Builtin.clear_, run_underlying ht, hv, hst]
set_option maxHeartbeats 4000000 in
set_option maxRecDepth 1000000 in
theorem delete_none (b n c i : Nat) (hi : i ≤ n) (hnc : n ≤ c) (w : World) :
  Calls Tryz.prog 173 #[.slice (some ⟨b, 0, none⟩) n c, .int .i64 i, .int .i64 i] w fun e w' => e = .returned (.slice (some ⟨b, 0, none⟩) n c) ∧ w' = w := by
 have mixed := X.mixed
 have t52 := Tryz.underlying46
 go_enter Tryz.func173, Tryz.ntmps173
 go_wp2
 all_goals (go_ret; exact ⟨rfl, rfl⟩)
set_option maxHeartbeats 4000000 in
set_option maxRecDepth 1000000 in
theorem delete_nil (w : World) :
  Calls Tryz.prog 173 #[.slice none 0 0, .int .i64 0, .int .i64 0] w fun e w' => e = .returned (.slice none 0 0) ∧ w' = w := by
 have mixed := X.mixed
 have t52 := Tryz.underlying46
 go_enter Tryz.func173, Tryz.ntmps173
 go_wp2
 all_goals (go_ret; exact ⟨rfl, rfl⟩)
set_option maxHeartbeats 4000000 in
set_option maxRecDepth 1000000 in
theorem delete_some (b n c i j : Nat) (cs : List Value) (w : World) (hij : i < j) (hj : j ≤ n) (hnc : n ≤ c)
  (hcl : cs.length = n * 2) (hcs : ∀ j v, cs[j]? = some v → w.cell? ⟨b, j, none⟩ = some v) (hfz : ∀ j, w.frozen? ⟨b, j, none⟩ = false) (h1c : ∀ v ∈ cs, v.oneCell' = true) :
  Calls Tryz.prog 173 #[.slice (some ⟨b, 0, none⟩) n c, .int .i64 i, .int .i64 j] w fun e w' => ∃ zs : List Value, zs.length = (j - i) * 2 ∧ e = .returned (.slice (some ⟨b, 0, none⟩) (n - (j - i)) c) ∧
   w' = (w.drew.setCells b (i * 2) (cs.drop (j * 2))).setCells b ((n - (j - i)) * 2) zs := by
 have mixed := X.mixed
 have t52 := Tryz.underlying46
 obtain ⟨i0, hi0, hz0, hzs, hzb⟩ := X.vol
 have hzv : ∀ w, (zeroValue 105).run Tryz.prog w = .ok (Value.agg #[.string ⟨#[]⟩, .slice none 0 0]) w := fun w => by simp [zeroValue, typeInfo, hi0, hz0]
 have hdl : (cs.drop (j * 2)).length = (n - j) * 2 := by rw [List.length_drop, hcl]; omega
 have hsp : ∀ k, k < n * 2 → (w.cell? ⟨b, k, none⟩).isSome = true := fun k hk => by
  rw [hcs k _ (List.getElem?_eq_getElem (by omega))]; rfl
 have hap : ∀ ty A, (n - j = 0 ∨ A = (⟨b, j * 2, none⟩ : Addr)) → (Builtin.append_ #[46, 46] ty #[.slice (some ⟨b, 0, none⟩) i c, .slice (some A) (n - j) (c - j)]).run Tryz.prog w.drew = .ok (.slice (some ⟨b, 0, none⟩) (i + (n - j)) c) (w.drew.setCells b (i * 2) (cs.drop (j * 2))) := fun ty A hA => by
  have h := run_append_room_cells (P := Tryz.prog) w.drew 46 ty 105 i0 t52 hi0 b 0 i c A (n - j) (c - j) (cs.drop (j * 2)) (by rw [hdl, hzs]) (fun k u hk => by
   rcases hA with h0 | rfl
   ·have := (List.getElem?_eq_some_iff.1 hk).1; omega
   ·rw [Addr.add_lit]; exact hcs (j * 2 + k) u (by rwa [List.getElem?_drop] at hk)) (fun v hv => h1c v (List.mem_of_mem_drop hv)) (by omega)
   (fun k hk => by rw [hzs, Nat.zero_add]; exact hsp _ (by omega)) (fun k hk => hfz _)
  rw [hzs, Nat.zero_add] at h
  exact h
 obtain ⟨W1, hW1⟩ : ∃ W1, W1 = w.drew.setCells b (i * 2) (cs.drop (j * 2)) := ⟨_, rfl⟩
 have hzl : (Builtin.zeroCells (Value.agg #[.string ⟨#[]⟩, .slice none 0 0]).cells (j - i)).toList.length = (j - i) * 2 := by simp [Builtin.zeroCells, Value.cells]
 have hcl2 : ∀ ty, (Builtin.clear_ #[46] ty #[.slice (some ⟨b, (i + (n - j)) * 2, none⟩) (n - (i + (n - j))) (c - (i + (n - j)))]).run Tryz.prog W1 = .ok (.tuple #[]) (W1.setCells b ((i + (n - j)) * 2) (Builtin.zeroCells (Value.agg #[.string ⟨#[]⟩, .slice none 0 0]).cells (n - (i + (n - j)))).toList) := fun ty =>
  run_clear_sliceN W1 46 105 ty _ t52 hzv (by simp [Value.cells, Value.oneCell']) b ((i + (n - j)) * 2) (n - (i + (n - j))) _ (by omega)
   (fun k hk => by
    rw [hW1]
    refine isSome_setCells b (cs.drop (j * 2)) (i * 2) w.drew (fun t ht => hsp _ (by rw [hdl] at ht; omega)) _ (hsp _ ?_)
    simp [Builtin.zeroCells, Value.cells] at hk
    omega)
   (fun k => by rw [hW1, World.frozen?_setCells]; exact hfz _) (fun v hv => by
    simp only [Builtin.zeroCells, Value.cells, Array.toList_map, List.mem_map] at hv
    obtain ⟨q, _, rfl⟩ := hv
    have : q % 2 = 0 ∨ q % 2 = 1 := by omega
    rcases this with h | h <;> simp [h, Value.oneCell'])
 have hic : i ≤ c := by omega
 have hjc : j ≤ c := by omega
 have hjn : ¬ (i : Int) = (j : Int) := by omega
 obtain ⟨A, hA, hA2⟩ : ∃ A : Addr, (if c = j then some (⟨b, 0, none⟩ : Addr) else some ⟨b, j * 2, none⟩) = some A ∧ (n - j = 0 ∨ A = (⟨b, j * 2, none⟩ : Addr)) := by
  by_cases h : c = j
  ·exact ⟨⟨b, 0, none⟩, by simp [h], .inl (by omega)⟩
  ·exact ⟨⟨b, j * 2, none⟩, by simp [h], .inr rfl⟩
 have s3 : ∀ t, t < (cs.drop (j * 2)).length → (w.drew.cell? ⟨b, 0 + i * 2 + t, none⟩).isSome = true ∧ w.drew.frozen? ⟨b, 0 + i * 2 + t, none⟩ = false := fun t ht => by
  rw [Nat.zero_add]; exact ⟨hsp _ (by omega), hfz _⟩
 have hsrc : ∀ t u, (cs.drop (j * 2))[t]? = some u → w.drew.cell? (A.add t) = some u := fun k u hk => by
  rcases hA2 with h0 | rfl
  ·have := (List.getElem?_eq_some_iff.1 hk).1; omega
  ·rw [Addr.add_lit]; exact hcs (j * 2 + k) u (by rwa [List.getElem?_drop] at hk)
 have h1d : ∀ v ∈ cs.drop (j * 2), v.oneCell' = true := fun v hv => h1c v (List.mem_of_mem_drop hv)
 have hlen : (cs.drop (j * 2)).length = (n - j) * 2 := hdl
 have hW : W1 = w.drew.setCells b (0 + i * 2) (cs.drop (j * 2)) := by rw [Nat.zero_add]; exact hW1
 have hcl3 := hcl2
 rw [hW1] at hcl3
 clear hcs hfz hsp hap hdl hcl h1c hcl2 hW
 go_enter Tryz.func173, Tryz.ntmps173
 go_wp2_with fail
 go_region_law_o (refine step_append_room rfl (.tmp 22) (.tmp 25) 46 rfl 105 i0 2 t52 hi0 hzs b 0 i c (by simp [Act.eval, Act.put]) A (n - j) (c - j) (cs.drop (j * 2)) (by simp [Act.eval, Act.put, hA]) hlen hsrc h1d (by omega) s3 ?_; rw [Nat.zero_add])
 go_wp2_with (simp only [hcl3])
 go_ret
 refine ⟨(Builtin.zeroCells #[Value.string { data := #[] }, Value.slice none 0 0] (n - (i + (n - j)))).toList, ?_, ?_, ?_⟩
 ·simp [Builtin.zeroCells]; omega
 ·rw [show n - (j - i) = i + (n - j) by omega]; rfl
 ·rw [show n - (j - i) = i + (n - j) by omega]
end Go.Gn

namespace Go.Gn
open Go Go.RowKit Go.Proofs Go.Shelf Go.Lib
structure DelW (f z : Nat) : Prop where
 no : ∀ (b n c i : Nat), i ≤ n → n ≤ c → ∀ (w : World), Calls Tryz.prog f #[.slice (some ⟨b, 0, none⟩) n c, .int .i64 i, .int .i64 i] w fun e w' => e = .returned (.slice (some ⟨b, 0, none⟩) n c) ∧ w' = w
 ni : ∀ (w : World), Calls Tryz.prog f #[.slice none 0 0, .int .i64 0, .int .i64 0] w fun e w' => e = .returned (.slice none 0 0) ∧ w' = w
 so : ∀ (b n c i j : Nat) (cs : List Value) (w : World), i < j → j ≤ n → n ≤ c → cs.length = n * z → (∀ j v, cs[j]? = some v → w.cell? ⟨b, j, none⟩ = some v) → (∀ j, w.frozen? ⟨b, j, none⟩ = false) → (∀ v ∈ cs, v.oneCell' = true) →
  Calls Tryz.prog f #[.slice (some ⟨b, 0, none⟩) n c, .int .i64 i, .int .i64 j] w fun e w' => ∃ zs : List Value, zs.length = (j - i) * z ∧ e = .returned (.slice (some ⟨b, 0, none⟩) (n - (j - i)) c) ∧
   w' = (w.drew.setCells b (i * z) (cs.drop (j * z))).setCells b ((n - (j - i)) * z) zs
structure DelR (z : Nat) (w w' : World) (blk : Option Nat) (n c i j : Nat) (cur : Array Value) (v : Value) : Prop where
 val : v = .slice (blk.map mk0) (n - (j - i)) c
 row : ∀ b, blk = some b → ∃ arr e, w'.heap[b]? = some (.cells arr e (0, 0)) ∧ arr.size = c * z ∧ (∀ t, t < i * z → arr[t]? = cur[t]?) ∧ (∀ t, i * z ≤ t → t < (n - (j - i)) * z → arr[t]? = cur[t + (j - i) * z]?)
 size : w'.heap.size = w.heap.size
 same : w'.os = w.os ∧ w'.tape = w.tape ∧ w'.output = w.output
 other : ∀ k, blk ≠ some k → w'.heap[k]? = w.heap[k]?
theorem delete_all {f z : Nat} (dw : DelW f z) {w : World} {blk : Option Nat} {n c i j : Nat} {cur : Array Value} {e : TypeId} (hij : i ≤ j) (hj : j ≤ n) (hnc : n ≤ c) (hc0 : blk = none → c = 0)
  (hcur : ∀ b : Nat, blk = some b → w.heap[b]? = some (.cells cur e (0, 0)) ∧ cur.size = c * z) (h1c : ∀ v ∈ cur.toList.take (n * z), v.oneCell' = true) :
  Calls Tryz.prog f #[.slice (blk.map mk0) n c, .int .i64 i, .int .i64 j] w fun en w' => ∃ v, en = .returned v ∧ DelR z w w' blk n c i j cur v := by
 cases blk with
 | none =>
  have h0 := hc0 rfl
  have hn : n = 0 := by omega
  have hi : i = 0 := by omega
  have hj0 : j = 0 := by omega
  subst hn; subst hi; subst hj0; subst h0
  refine (dw.ni w).mono ?_
  rintro en w' ⟨rfl, rfl⟩
  exact ⟨_, rfl, rfl, fun b hb => (by cases hb), rfl, ⟨rfl, rfl, rfl⟩, fun _ _ => rfl⟩
 | some b =>
  obtain ⟨hb, hbs⟩ := hcur b rfl
  show Calls Tryz.prog f #[.slice (some ⟨b, 0, none⟩) n c, .int .i64 i, .int .i64 j] w _
  by_cases he : i = j
  ·subst he
   refine (dw.no b n c i (by omega) hnc w).mono ?_
   rintro en w' ⟨rfl, rfl⟩
   exact ⟨_, rfl, by simp [mk0], fun b' hb' => (by cases hb'; exact ⟨cur, e, hb, hbs, fun _ _ => rfl, fun t _ _ => by simp⟩), rfl, ⟨rfl, rfl, rfl⟩, fun _ _ => rfl⟩
  ·have m1 : i * z ≤ j * z := Nat.mul_le_mul_right z hij
   have m2 : j * z ≤ n * z := Nat.mul_le_mul_right z hj
   have m3 : n * z ≤ c * z := Nat.mul_le_mul_right z hnc
   have m4 : (j - i) * z = j * z - i * z := Nat.sub_mul ..
   have m5 : (n - (j - i)) * z = n * z - (j * z - i * z) := by rw [Nat.sub_mul, m4]
   have m6 : (n - j) * z = n * z - j * z := Nat.sub_mul ..
   have hcl : (cur.toList.take (n * z)).length = n * z := by simp; omega
   refine (dw.so b n c i j (cur.toList.take (n * z)) w (by omega) hj hnc hcl (fun t v ht => by
    rw [List.getElem?_take] at ht
    split at ht
    ·have : cur[t]? = some v := by simpa using ht
     simp [World.cell?, hb, this]
    ·cases ht) (fun t => by simp [World.frozen?, hb]) h1c).mono ?_
   rintro en w' ⟨zs, hzl, rfl, rfl⟩
   have hdl : ((cur.toList.take (n * z)).drop (j * z)).length = n * z - j * z := by rw [List.length_drop, hcl]
   obtain ⟨cur1, g1, g2, g3⟩ := heap_setCells b ((cur.toList.take (n * z)).drop (j * z)) (i * z) w.drew cur hb (by omega)
   obtain ⟨cur2, f1, f2, f3⟩ := heap_setCells b zs ((n - (j - i)) * z) _ cur1 g1 (by omega)
   refine ⟨_, rfl, rfl, fun b' hb' => by
    cases hb'
    refine ⟨cur2, e, f1, by rw [f2, g2, hbs], fun t ht => ?_, fun t ht ht2 => ?_⟩
    ·rw [f3, if_neg (by omega), g3, if_neg (by omega)]
    ·rw [f3, if_neg (by omega), g3, if_pos (by omega), List.getElem?_drop, List.getElem?_take, if_pos (by omega), show j * z + (t - i * z) = t + (j - i) * z by omega]
     simp, ?_, ⟨?_, ?_, ?_⟩, fun k hk => ?_⟩
   ·rw [size_setCells', size_setCells', drew_heap]
   ·rw [os_setCells', os_setCells']; rfl
   ·rw [tape_setCells, tape_setCells]; rfl
   ·rw [output_setCells', output_setCells']; rfl
   ·rw [other_setCells b (fun e => hk (by rw [e])), other_setCells b (fun e => hk (by rw [e]))]; rfl
theorem good_deleteG {f z : Nat} (hz : 0 < z) (dw : DelW f z) : Good Tryz.prog (fun _ => deleteX z) f false := by
 unfold Good
 rw [if_neg (by simp)]
 intro args os r os' h c w vals hst hdom hvals
 simp only [deleteX] at h
 split at h
 rotate_left
 ·cases h
 rename_i i j s' k c0 xs
 split at h
 rotate_left
 ·cases h
 rename_i hc
 obtain ⟨hs1, hi0, hij, hjl, hk⟩ := hc
 have hs2 := hs1.symm
 subst hs2
 cases h
 obtain ⟨i, rfl⟩ : ∃ i' : Nat, i = (i' : Int) := ⟨i.toNat, by omega⟩
 obtain ⟨j, rfl⟩ : ∃ j' : Nat, j = (j' : Int) := ⟨j.toNat, by omega⟩
 have hij : i ≤ j := by omega
 have hjl : j ≤ xs.length := by omega
 rw [Int.toNat_natCast, Int.toNat_natCast]
 cases hvals with
 | cons _ v0 _ vs hv0 hvs =>
 cases hvs with
 | cons _ v1 _ vs hv1 hvs =>
 cases hvs with
 | cons _ v2 _ vs hv2 hvs =>
 cases hvs
 cases hv1
 cases hv2
 obtain ⟨m0, hm0, rfl⟩ : ∃ m0, c.μ 0 = some m0 ∧ v0 = .slice (m0.blk.map mk0) m0.len m0.cap := by
  cases hv0 with | hw _ m hm => exact ⟨m, hm, rfl⟩
 have hrow : RepRow c.imm w m0 z k c0 xs := by
  obtain ⟨m, hm, hr⟩ := hst.obj 0 _ rfl (by simp)
  rw [hm0] at hm; cases hm; exact hr
 obtain ⟨r1, r2, r3, r4, r5, r6, r7⟩ := hrow
 have own0 : ∀ b, m0.blk = some b → Owns c.μ [.row z k c0 xs] 0 none b := fun b hb => ⟨m0, hm0, hb⟩
 have own0n : ∀ p b, p < k → m0.nest p = some b → Owns c.μ [.row z k c0 xs] 0 (some p) b := fun p b hp hb => ⟨m0, hm0, hp, hb⟩
 have hcur : ∃ (cur : Array Value) (e : TypeId), ∀ b, m0.blk = some b → w.heap[b]? = some (.cells cur e (0, 0)) ∧ cur.size = m0.cap * z ∧
   ∀ (j : Nat) (el : List D) (i : Nat) (d : D), xs[j]? = some el → el[i]? = some d → ∃ v, cur[j * z + i]? = some v ∧ (if j < k ∧ i = c0 then RepN c.imm w m0 j d v else RepD c.imm w d v) := by
  cases hb : m0.blk with
  | none => exact ⟨#[], 0, fun b h => by cases h⟩
  | some b =>
   obtain ⟨vs, e, h1, h2, h3⟩ := r7 b hb
   exact ⟨vs, e, fun b' hb' => by cases hb'; exact ⟨h1, h2, h3⟩⟩
 obtain ⟨cur, e, hcur⟩ := hcur
 have hnone : m0.blk = none → xs = [] := fun h => List.eq_nil_of_length_eq_zero (by have := r5 h; omega)
 have hone : ∀ v ∈ cur.toList.take (xs.length * z), v.oneCell' = true := fun v hv => by
  obtain ⟨q, hq⟩ := List.getElem?_of_mem hv
  rw [List.getElem?_take] at hq
  split at hq
  rotate_left
  ·cases hq
  rename_i hql
  have hq : cur[q]? = some v := by simpa using hq
  cases hb : m0.blk with
  | none => rw [hnone hb] at hql; simp at hql
  | some b =>
   obtain ⟨h1, h2, h3⟩ := hcur b hb
   have hjl : q / z < xs.length := Nat.div_lt_of_lt_mul (by rw [Nat.mul_comm]; exact hql)
   obtain ⟨el, hel⟩ : ∃ el, xs[q / z]? = some el := ⟨_, List.getElem?_eq_getElem hjl⟩
   have hell := r6 el (List.mem_of_getElem? hel)
   obtain ⟨d, hd⟩ : ∃ d, el[q % z]? = some d := ⟨_, List.getElem?_eq_getElem (by rw [hell]; exact Nat.mod_lt _ hz)⟩
   obtain ⟨v', hv', hr⟩ := h3 _ _ _ _ hel hd
   rw [show q / z * z + q % z = q from Nat.div_add_mod' q z, hq] at hv'
   cases hv'
   split at hr
   ·obtain ⟨ys', _, hr | hr⟩ := hr
    ·obtain ⟨_, _, A, cap, rfl⟩ := hr; rfl
    ·obtain ⟨_, _, _, _, _, rfl, _⟩ := hr; rfl
   ·exact hr.one
 rw [r2]
 refine (delete_all dw (cur := cur) hij hjl (by omega) r5 (fun b hb => ⟨(hcur b hb).1, (hcur b hb).2.1⟩) hone).mono ?_
 rintro en w' ⟨v, rfl, hval, hrw, hsize, hsame, hother⟩
 generalize hos : [Obj.row z k c0 xs] = os at hst own0 own0n
 have hol : os.length = 1 := by rw [← hos]; rfl
 have hkeep : ∀ p l b', Owns c.μ os p l b' → ¬ (p = 0 ∧ l = none) → w'.heap[b']? = w.heap[b']? := fun p l b' ho hn =>
  hother b' (fun e => hn (hst.uniq _ _ _ _ _ ho (own0 b' e)))
 let ix : Nat → Nat := fun p => if p < i then p else p + (j - i)
 let m1 : Meta := ⟨m0.blk, z, xs.length - (j - i), m0.cap, fun p => if p < k - (j - i) then m0.nest (ix p) else none⟩
 let c' : Cx := { c with μ := fun p => if p = 1 then some m1 else c.μ p }
 have hkx : ∀ q, q < k - (j - i) → ix q < k ∧ ix q < xs.length := fun q hq => by simp only [ix]; split <;> omega
 have ixinj : ∀ p q, ix p = ix q → p = q := fun p q h => by simp only [ix] at h; split at h <;> split at h <;> omega
 have key : ∀ p l b', Owns c'.μ [.dead, .row z (k - (j - i)) c0 (xs.take i ++ xs.drop j)] p l b' → (p = 1 ∧ l = none ∧ Owns c.μ os 0 none b') ∨ (p = 1 ∧ ∃ q, l = some q ∧ Owns c.μ os 0 (some (ix q)) b') := by
  rintro p l b' ⟨m, hm, ho⟩
  match p with
  | 0 => cases l <;> exact ho.elim
  | 1 =>
   have hm : some m1 = some m := hm
   cases hm
   cases l with
   | none => exact .inl ⟨rfl, rfl, own0 b' ho⟩
   | some q =>
    obtain ⟨hq, hn⟩ : q < k - (j - i) ∧ m1.nest q = some b' := ho
    simp only [m1] at hn
    rw [if_pos hq] at hn
    exact .inr ⟨rfl, q, rfl, own0n _ b' (hkx q hq).1 hn⟩
  | p + 2 => cases l <;> exact ho.elim
 have hlen : (xs.take i ++ xs.drop j).length = xs.length - (j - i) := by simp; omega
 obtain ⟨s1, s2⟩ := hst.step (c' := c') (os' := [.dead, .row z (k - (j - i)) c0 (xs.take i ++ xs.drop j)]) (w' := w') (fun b' => m0.blk = some b') ⟨rfl, rfl⟩ (fun _ h => h) (fun _ h => .inl h)
  (fun o m hm => by
   by_cases h3 : o = 1
   ·subst h3; exact absurd (hdom 1 (by rw [hm]; simp)) (by simp)
   ·exact ⟨m, by simp [c', h3, hm], m.le_refl⟩) (by omega) hsame (fun b' hb' hn => hother b' hn) (fun b' h => ⟨0, none, own0 b' h⟩)
  (fun ext o x hx hxd => by
   match o with
   | 0 => exact absurd hx.symm hxd
   | 1 =>
    left
    have hx : Obj.row z (k - (j - i)) c0 (xs.take i ++ xs.drop j) = x := hx
    subst hx
    refine ⟨m1, by simp [c'], ?_⟩
    refine ⟨rfl, hlen.symm, by simp only [m1]; omega, ⟨by omega, fun _ p hp => ?_⟩, r5, fun el hel => ?_, fun b hb => ?_⟩
    ·simp only [m1]; rw [if_neg (by omega)]
    ·rcases List.mem_append.1 hel with hel | hel
     ·exact r6 el (List.mem_of_mem_take hel)
     ·exact r6 el (List.mem_of_mem_drop hel)
    ·have hb : m0.blk = some b := hb
     obtain ⟨arr, e', g1, g2, g3, g4⟩ := hrw b hb
     refine ⟨arr, e', g1, g2, fun p el t d hp ht => ?_⟩
     have hpl : p < xs.length - (j - i) := by rw [← hlen]; exact (List.getElem?_eq_some_iff.1 hp).1
     have hti : (xs.take i).length = i := by simp; omega
     have hx0 : xs[ix p]? = some el := by
      simp only [ix]
      by_cases h1 : p < i
      ·rw [List.getElem?_append_left (by omega), List.getElem?_take, if_pos h1] at hp
       rw [if_pos h1]; exact hp
      ·rw [List.getElem?_append_right (by omega), List.getElem?_drop, hti] at hp
       rw [if_neg h1, ← hp]; congr 1; omega
     have ht2 : t < z := by rw [← r6 el (List.mem_of_getElem? hx0)]; exact (List.getElem?_eq_some_iff.1 ht).1
     obtain ⟨v, hv, hr⟩ := (hcur b hb).2.2 _ el t d hx0 ht
     refine ⟨v, ?_, ?_⟩
     ·rw [← hv]
      simp only [ix]
      by_cases h1 : p < i
      ·have := Nat.mul_le_mul_right z (show p + 1 ≤ i from h1)
       rw [Nat.add_mul, Nat.one_mul] at this
       rw [if_pos h1, g3 _ (by omega)]
      ·have q1 := Nat.mul_le_mul_right z (show i ≤ p by omega)
       have q2 := Nat.mul_le_mul_right z (show p + 1 ≤ xs.length - (j - i) from hpl)
       rw [Nat.add_mul, Nat.one_mul] at q2
       rw [if_neg h1, g4 _ (by omega) (by omega)]; congr 1; rw [Nat.add_mul]; omega
     ·by_cases hpk : p < k - (j - i)
      ·by_cases htc : t = c0
       ·rw [if_pos ⟨(hkx p hpk).1, htc⟩] at hr
        rw [if_pos ⟨hpk, htc⟩]
        exact (hr.mono ext.ki (fun _ h => h) (fun b' hb' => hkeep 0 _ b' (own0n _ b' (hkx p hpk).1 hb') (fun h => by cases h.2))).at (by simp only [m1]; rw [if_pos hpk])
       ·rw [if_neg (fun h => htc h.2)] at hr
        rw [if_neg (fun h => htc h.2)]
        exact hr.mono ext.ki (fun _ h => h)
      ·have hk0 : k = 0 := by omega
       rw [if_neg (by omega)] at hr
       rw [if_neg (fun h => hpk h.1)]
       exact hr.mono ext.ki (fun _ h => h)
   | o + 2 => exact absurd hx.symm hxd)
  (fun p l p' l' b' h1 h2 => by
   rcases key _ _ _ h1 with ⟨a1, a2, k1⟩ | ⟨a1, q1, a2, k1⟩ <;> rcases key _ _ _ h2 with ⟨b1, b2, k2⟩ | ⟨b1, q2, b2, k2⟩
   ·exact ⟨by omega, by rw [a2, b2]⟩
   ·have := (hst.uniq _ _ _ _ _ k1 k2).2; cases this
   ·have := (hst.uniq _ _ _ _ _ k1 k2).2; cases this
   ·refine ⟨by omega, ?_⟩
    have := (hst.uniq _ _ _ _ _ k1 k2).2
    simp only [Option.some.injEq] at this
    rw [a2, b2, ixinj _ _ this])
  (fun p l b' h1 => by
   have fromOld : ∀ p l, Owns c.μ os p l b' → b' < w'.heap.size ∧ ¬ c.imm b' ∧ ¬ c.fix b' ∧ ¬ c.oth b' := fun p l ho => by
    obtain ⟨a1, a2⟩ := hst.lt _ _ _ ho
    exact ⟨by omega, a2⟩
   rcases key _ _ _ h1 with ⟨_, _, h1⟩ | ⟨_, q1, _, h1⟩ <;> exact fromOld _ _ h1)
  (fun b hb => Nat.lt_of_lt_of_le (hst.immlt b hb) (by omega)) hst.fixlt
 refine ⟨c', s1, rfl, rfl, fun _ h => h, fun o ho m hm => ⟨m, ?_, m.le_refl⟩, fun q hq => ?_, fun q hq hn => ?_, s2.kf, s2.ki, s2.ko, by rw [hol]; simp, ?_, rfl, fun q => ?_⟩
 ·have : o ≠ 1 := by omega
  simp [c', this, hm]
 ·by_cases h3 : q = 1
  ·subst h3; simp
  ·have := hdom q (by simpa [c', h3] using hq)
   simp at this ⊢; omega
 ·have : q ≠ 1 := by omega
  simp [c', this, hn]
 ·rw [hval]; exact .hw 1 m1 (by simp [c'])
 ·match q with
  | 0 => rfl
  | 1 => rfl
  | q + 2 => simp [Obj.noBr]
theorem good_delete : Good Tryz.prog (fun _ => deleteX 2) 173 false := good_deleteG (by decide) ⟨fun b n c i h1 h2 w => delete_none b n c i h1 h2 w, delete_nil, fun b n c i j cs w h1 h2 h3 h4 h5 h6 h7 => delete_some b n c i j cs w h1 h2 h3 h4 h5 h6 h7⟩
end Go.Gn

namespace Go.Gn
open Go Go.RowKit Go.Proofs Go.Shelf Go.Lib
theorem X.msg : ∃ i, Tryz.prog.info? 42 = some i ∧ i.zero = some (.agg #[.int .i64 0, .int .i64 0, .int .i64 0, .int .i64 0, .int .i64 0, .string ⟨#[]⟩, .string ⟨#[]⟩, .int .i64 0, .string ⟨#[]⟩, .slice none 0 0] : Value) ∧ i.size = 10 ∧ i.bytes = 120 := by
 have hin : (Tryz.prog.info? 42).map (fun i => (i.zero, i.size, i.bytes)) = some (some (.agg #[.int .i64 0, .int .i64 0, .int .i64 0, .int .i64 0, .int .i64 0, .string ⟨#[]⟩, .string ⟨#[]⟩, .int .i64 0, .string ⟨#[]⟩, .slice none 0 0] : Value), 10, 120) := by kernel_rfl
 obtain ⟨i0, hi, hz⟩ := Option.map_eq_some_iff.1 hin
 exact ⟨i0, hi, congrArg Prod.fst hz, congrArg (fun x => x.2.1) hz, congrArg (fun x => x.2.2) hz⟩
set_option maxHeartbeats 4000000 in
set_option maxRecDepth 1000000 in
theorem deleteM_none (b n c i : Nat) (hi : i ≤ n) (hnc : n ≤ c) (w : World) :
  Calls Tryz.prog 184 #[.slice (some ⟨b, 0, none⟩) n c, .int .i64 i, .int .i64 i] w fun e w' => e = .returned (.slice (some ⟨b, 0, none⟩) n c) ∧ w' = w := by
 have mixed := X.mixed
 have tMs := Tryz.underlying26
 go_enter Tryz.func184, Tryz.ntmps184
 go_wp2
 all_goals (go_ret; exact ⟨rfl, rfl⟩)
set_option maxHeartbeats 4000000 in
set_option maxRecDepth 1000000 in
theorem deleteM_nil (w : World) :
  Calls Tryz.prog 184 #[.slice none 0 0, .int .i64 0, .int .i64 0] w fun e w' => e = .returned (.slice none 0 0) ∧ w' = w := by
 have mixed := X.mixed
 have tMs := Tryz.underlying26
 go_enter Tryz.func184, Tryz.ntmps184
 go_wp2
 all_goals (go_ret; exact ⟨rfl, rfl⟩)
set_option maxHeartbeats 4000000 in
set_option maxRecDepth 1000000 in
theorem deleteM_some (b n c i j : Nat) (cs : List Value) (w : World) (hij : i < j) (hj : j ≤ n) (hnc : n ≤ c)
  (hcl : cs.length = n * 10) (hcs : ∀ j v, cs[j]? = some v → w.cell? ⟨b, j, none⟩ = some v) (hfz : ∀ j, w.frozen? ⟨b, j, none⟩ = false) (h1c : ∀ v ∈ cs, v.oneCell' = true) :
  Calls Tryz.prog 184 #[.slice (some ⟨b, 0, none⟩) n c, .int .i64 i, .int .i64 j] w fun e w' => ∃ zs : List Value, zs.length = (j - i) * 10 ∧ e = .returned (.slice (some ⟨b, 0, none⟩) (n - (j - i)) c) ∧
   w' = (w.drew.setCells b (i * 10) (cs.drop (j * 10))).setCells b ((n - (j - i)) * 10) zs := by
 have mixed := X.mixed
 have tMs := Tryz.underlying26
 obtain ⟨i0, hi0, hz0, hzs, hzb⟩ := X.msg
 have hzv : ∀ w, (zeroValue 42).run Tryz.prog w = .ok (Value.agg #[.int .i64 0, .int .i64 0, .int .i64 0, .int .i64 0, .int .i64 0, .string ⟨#[]⟩, .string ⟨#[]⟩, .int .i64 0, .string ⟨#[]⟩, .slice none 0 0]) w := fun w => by simp [zeroValue, typeInfo, hi0, hz0]
 have hdl : (cs.drop (j * 10)).length = (n - j) * 10 := by rw [List.length_drop, hcl]; omega
 have hsp : ∀ k, k < n * 10 → (w.cell? ⟨b, k, none⟩).isSome = true := fun k hk => by
  rw [hcs k _ (List.getElem?_eq_getElem (by omega))]; rfl
 have hap : ∀ ty A, (n - j = 0 ∨ A = (⟨b, j * 10, none⟩ : Addr)) → (Builtin.append_ #[26, 26] ty #[.slice (some ⟨b, 0, none⟩) i c, .slice (some A) (n - j) (c - j)]).run Tryz.prog w.drew = .ok (.slice (some ⟨b, 0, none⟩) (i + (n - j)) c) (w.drew.setCells b (i * 10) (cs.drop (j * 10))) := fun ty A hA => by
  have h := run_append_room_cells (P := Tryz.prog) w.drew 26 ty 42 i0 tMs hi0 b 0 i c A (n - j) (c - j) (cs.drop (j * 10)) (by rw [hdl, hzs]) (fun k u hk => by
   rcases hA with h0 | rfl
   ·have := (List.getElem?_eq_some_iff.1 hk).1; omega
   ·rw [Addr.add_lit]; exact hcs (j * 10 + k) u (by rwa [List.getElem?_drop] at hk)) (fun v hv => h1c v (List.mem_of_mem_drop hv)) (by omega)
   (fun k hk => by rw [hzs, Nat.zero_add]; exact hsp _ (by omega)) (fun k hk => hfz _)
  rw [hzs, Nat.zero_add] at h
  exact h
 obtain ⟨W1, hW1⟩ : ∃ W1, W1 = w.drew.setCells b (i * 10) (cs.drop (j * 10)) := ⟨_, rfl⟩
 have hzl : (Builtin.zeroCells (Value.agg #[.int .i64 0, .int .i64 0, .int .i64 0, .int .i64 0, .int .i64 0, .string ⟨#[]⟩, .string ⟨#[]⟩, .int .i64 0, .string ⟨#[]⟩, .slice none 0 0]).cells (j - i)).toList.length = (j - i) * 10 := by simp [Builtin.zeroCells, Value.cells]
 have hcl2 : ∀ ty, (Builtin.clear_ #[26] ty #[.slice (some ⟨b, (i + (n - j)) * 10, none⟩) (n - (i + (n - j))) (c - (i + (n - j)))]).run Tryz.prog W1 = .ok (.tuple #[]) (W1.setCells b ((i + (n - j)) * 10) (Builtin.zeroCells (Value.agg #[.int .i64 0, .int .i64 0, .int .i64 0, .int .i64 0, .int .i64 0, .string ⟨#[]⟩, .string ⟨#[]⟩, .int .i64 0, .string ⟨#[]⟩, .slice none 0 0]).cells (n - (i + (n - j)))).toList) := fun ty =>
  run_clear_sliceN W1 26 42 ty _ tMs hzv (by simp [Value.cells, Value.oneCell']) b ((i + (n - j)) * 10) (n - (i + (n - j))) _ (by omega)
   (fun k hk => by
    rw [hW1]
    refine isSome_setCells b (cs.drop (j * 10)) (i * 10) w.drew (fun t ht => hsp _ (by rw [hdl] at ht; omega)) _ (hsp _ ?_)
    simp [Builtin.zeroCells, Value.cells] at hk
    omega)
   (fun k => by rw [hW1, World.frozen?_setCells]; exact hfz _) (fun v hv => by
    simp only [Builtin.zeroCells, Value.cells, Array.toList_map, List.mem_map] at hv
    obtain ⟨q, _, rfl⟩ := hv
    have : q % 10 = 0 ∨ q % 10 = 1 ∨ q % 10 = 2 ∨ q % 10 = 3 ∨ q % 10 = 4 ∨ q % 10 = 5 ∨ q % 10 = 6 ∨ q % 10 = 7 ∨ q % 10 = 8 ∨ q % 10 = 9 := by omega
    rcases this with h | h | h | h | h | h | h | h | h | h <;> simp [h, Value.oneCell'])
 have hic : i ≤ c := by omega
 have hjc : j ≤ c := by omega
 have hjn : ¬ (i : Int) = (j : Int) := by omega
 obtain ⟨A, hA, hA2⟩ : ∃ A : Addr, (if c = j then some (⟨b, 0, none⟩ : Addr) else some ⟨b, j * 10, none⟩) = some A ∧ (n - j = 0 ∨ A = (⟨b, j * 10, none⟩ : Addr)) := by
  by_cases h : c = j
  ·exact ⟨⟨b, 0, none⟩, by simp [h], .inl (by omega)⟩
  ·exact ⟨⟨b, j * 10, none⟩, by simp [h], .inr rfl⟩
 have s3 : ∀ t, t < (cs.drop (j * 10)).length → (w.drew.cell? ⟨b, 0 + i * 10 + t, none⟩).isSome = true ∧ w.drew.frozen? ⟨b, 0 + i * 10 + t, none⟩ = false := fun t ht => by
  rw [Nat.zero_add]; exact ⟨hsp _ (by omega), hfz _⟩
 have hsrc : ∀ t u, (cs.drop (j * 10))[t]? = some u → w.drew.cell? (A.add t) = some u := fun k u hk => by
  rcases hA2 with h0 | rfl
  ·have := (List.getElem?_eq_some_iff.1 hk).1; omega
  ·rw [Addr.add_lit]; exact hcs (j * 10 + k) u (by rwa [List.getElem?_drop] at hk)
 have h1d : ∀ v ∈ cs.drop (j * 10), v.oneCell' = true := fun v hv => h1c v (List.mem_of_mem_drop hv)
 have hlen : (cs.drop (j * 10)).length = (n - j) * 10 := hdl
 have hW : W1 = w.drew.setCells b (0 + i * 10) (cs.drop (j * 10)) := by rw [Nat.zero_add]; exact hW1
 have hcl3 := hcl2
 rw [hW1] at hcl3
 clear hcs hfz hsp hap hdl hcl h1c hcl2 hW
 go_enter Tryz.func184, Tryz.ntmps184
 go_wp2_with fail
 go_region_law_o (refine step_append_room rfl (.tmp 22) (.tmp 25) 26 rfl 42 i0 10 tMs hi0 hzs b 0 i c (by simp [Act.eval, Act.put]) A (n - j) (c - j) (cs.drop (j * 10)) (by simp [Act.eval, Act.put, hA]) hlen hsrc h1d (by omega) s3 ?_; rw [Nat.zero_add])
 go_wp2_with (simp only [hcl3])
 go_ret
 refine ⟨(Builtin.zeroCells #[Value.int .i64 0, Value.int .i64 0, Value.int .i64 0, Value.int .i64 0, Value.int .i64 0, Value.string { data := #[] }, Value.string { data := #[] }, Value.int .i64 0, Value.string { data := #[] }, Value.slice none 0 0] (n - (i + (n - j)))).toList, ?_, ?_, ?_⟩
 ·simp [Builtin.zeroCells]; omega
 ·rw [show n - (j - i) = i + (n - j) by omega]; rfl
 ·rw [show n - (j - i) = i + (n - j) by omega]
theorem good_deleteM : Good Tryz.prog (fun _ => deleteX 10) 184 false := good_deleteG (by decide) ⟨fun b n c i h1 h2 w => deleteM_none b n c i h1 h2 w, deleteM_nil, fun b n c i j cs w h1 h2 h3 h4 h5 h6 h7 => deleteM_some b n c i j cs w h1 h2 h3 h4 h5 h6 h7⟩
end Go.Gn

namespace Go.Gn
open Go Go.RowKit Go.Proofs
theorem ext_ok {f : Nat} {cf : CF} {fn : Func} {g : List AV → List Obj → Option (AV × List Obj)} (he : cf.ext = some g) (h1 : Tryz.prog.funcs[f]? = some fn) (h2 : fn.name ≠ "runtime.NumGoroutine") (h3 : fn.body ≠ none) (hg : Good Tryz.prog (fun _ => g) f false) : RowOK Tryz.prog f cf := by
 unfold RowOK
 rw [he]
 exact ⟨⟨fn, h1, h2, h3⟩, fun _ => hg⟩
theorem ok156 : RowOK Tryz.prog 156 cf156 := ext_ok rfl Tryz.func156 (of_decide_eq_true (by kernel_rfl)) (by simp [Tryz.f156]) (good_clone (by decide) clone156_some clone156_nil)
theorem ok171 : RowOK Tryz.prog 171 cf171 := ext_ok rfl Tryz.func171 (of_decide_eq_true (by kernel_rfl)) (by simp [Tryz.f171]) (good_clone (by decide) clone171_some clone171_nil)
theorem ok193 : RowOK Tryz.prog 193 cf193 := ext_ok rfl Tryz.func193 (of_decide_eq_true (by kernel_rfl)) (by simp [Tryz.f193]) (good_clone (by decide) clone193_some clone193_nil)
theorem ok194 : RowOK Tryz.prog 194 cf194 := ext_ok rfl Tryz.func194 (of_decide_eq_true (by kernel_rfl)) (by simp [Tryz.f194]) (good_clone (by decide) clone194_some clone194_nil)
theorem ok173 : RowOK Tryz.prog 173 cf173 := ext_ok rfl Tryz.func173 (of_decide_eq_true (by kernel_rfl)) (by simp [Tryz.f173]) good_delete
theorem ok184 : RowOK Tryz.prog 184 cf184 := ext_ok rfl Tryz.func184 (of_decide_eq_true (by kernel_rfl)) (by simp [Tryz.f184]) good_deleteM
theorem ok205 : RowOK Tryz.prog 205 cf205 := ext_ok rfl Tryz.func205 (of_decide_eq_true (by kernel_rfl)) (by simp [Tryz.f205]) good_insert
theorem ok204 : RowOK Tryz.prog 204 cf204 := ext_ok rfl Tryz.func204 (of_decide_eq_true (by kernel_rfl)) (by simp [Tryz.f204]) good_compare
theorem all_ok : ∀ f cf, G f = some cf → RowOK Tryz.prog f cf := fun f cf h => tab_ok (ok156 := ok156) (ok171 := ok171) (ok173 := ok173) (ok204 := ok204) (ok205 := ok205) (ok193 := ok193) (ok194 := ok194) (ok184 := ok184) _ (look_mem h)
end Go.Gn

namespace Go.Gn
open Go Go.RowKit Go.Proofs Go.Deep
abbrev c0 (w : World) : Cx := ⟨fun b => b < w.heap.size, fun _ => False, fun _ => False, fun _ => none⟩
theorem rep_true {c : Cx} {w : World} {v : Value} (h : RepAV c w (.bool true) v) : v = .bool true := by cases h; rfl
end Go.Gn

namespace Go.Gn
open Go Go.RowKit Go.Proofs Go.Deep
abbrev c1 (w : World) : Cx := ⟨fun b => b < w.heap.size, fun b => b < w.heap.size, fun _ => False, fun _ => none⟩
theorem said2 {W : CallF} {L : LoopF} {E : EqF} {T : Prop → Bool} (h : IsK G W L E T) {f : Nat} {cf : CF} (hG : G f = some cf) (hi : cf.inl = false) {args : List AV} {r : AV} {os' : List Obj} (he : W f args [] = some (r, os'))
  {w : World} {vals : List Value} (hv : RepAVs (c1 w) w args vals) :
  Calls Tryz.prog f vals.toArray w fun e w' => ∃ v c', e = .returned v ∧ RepAV c' w' r v ∧ Below w.heap.size w w' := by
 obtain ⟨n, hn⟩ := h.w.sound _ _ _ _ he
 have hg := (tbl_sound all_ok n f cf hG).2
 rw [hi] at hg
 unfold Good at hg
 rw [if_neg (by simp)] at hg
 have hst : Store w (c1 w) [] w :=
  ⟨fun o x hx hne => absurd (by simpa using hx.symm) hne, fun o l o' l' b ⟨m, hm, _⟩ => (by cases hm), fun o l b ⟨m, hm, _⟩ => (by cases hm), fun b hb => hb, fun b hb => hb, fun b hb => hb.elim, fun b _ hb => hb.elim, Keep.refl _ _, Nat.le_refl _, rfl, rfl, rfl⟩
 refine (hg args [] r os' hn _ w vals hst (fun q hq => absurd rfl hq) hv).mono ?_
 intro e w' hq
 cases e with
 | returned v =>
  obtain ⟨c', ha⟩ := hq
  have hs := ha.st.same
  exact ⟨v, c', rfl, ha.val, ⟨hs.1, hs.2.1, hs.2.2, ha.st.grow, fun k hk => ha.kf k hk⟩⟩
 | _ => exact hq.elim
theorem rd_byte : RdT 5 byD (fun n => 0 ≤ n ∧ n ≤ 255) := fun {_ _ _ _ _ _ _ _} h => by
 obtain ⟨n, rfl, _, hw⟩ := DataW.trod_int Tryz.underlying5 h
 refine ⟨n, rfl, fun i d hi => ?_, ?_⟩
 ·match i with
  | 0 => cases hi; exact ⟨_, rfl, .int _ _⟩
  | i + 1 => cases hi
 ·exact bounds_u8 hw
theorem rd_bytes : RdT 22 (slD byD) BytesOk := rd_slice Tryz.underlying22 (sz := 1) (by kernel_rfl) (by decide) rd_byte
theorem rep_bytes {w : World} {cs : List Int} {u : Value} (h : Rd w (slD byD cs) [u] 0) : RepAV (c1 w) w (.sl .sh (cs.map byD)) u := by
 obtain ⟨u', hu, hr⟩ := h 0 _ rfl
 cases hu
 exact .sl .sh _ _ hr
end Go.Gn

