/- Part 5 of a proof: an evaluator of the program, proved sound, and what it answers. -/
import Derived.Test.YtkgpnfeabojhcaaGreatA4
import Derived.Orders
set_option linter.all false
namespace Go.Gn
open Go
theorem map_getX {ts ts' : Ts} {xs : List X} (h : ∀ x, x ∈ xs → getX ts x = getX ts' x) : xs.map (getX ts) = xs.map (getX ts') := List.map_congr_left h
theorem optI_congr {ts ts' : Ts} {lo : Option X} (h : ∀ x, x ∈ oX lo → getX ts x = getX ts' x) : optI ts lo = optI ts' lo := by
 cases lo with
 | none => rfl
 | some x =>
  have := h x (by simp [oX])
  cases x with
  | t n => simp only [getX] at this; simp only [optI, this]
  | c v => cases v <;> rfl
theorem ps_congr {ts ts' : Ts} {ps : List (Nat × Nat × X)} (h : ∀ x, x ∈ psX ps → getX ts x = getX ts' x) : (ps.map fun p => (p.1, p.2.1, getX ts p.2.2)) = ps.map fun p => (p.1, p.2.1, getX ts' p.2.2) := by
 refine List.map_congr_left fun p hp => ?_
 rw [h p.2.2 (by simp only [psX, List.mem_map]; exact ⟨p, hp, rfl⟩)]
theorem evI_congr' {call : CallF} {G : Nat → Option CF} {me : CF} {ins : I} {ts ts' : Ts} {nb : Nat} {os : List Obj} (h : ∀ x, x ∈ ins.xs → getX ts x = getX ts' x) : evI call G me ins ts nb os = evI call G me ins ts' nb os := by
 cases ins
 case build zs ps => simp only [evI, ps_congr h]
 case mks sz len zs ps => simp only [evI, ps_congr h]
 case sstr x lo hi => simp only [evI, h x (by simp [I.xs]), optI_congr (lo := lo) fun y hy => h y (by simp [I.xs, hy]), optI_congr (lo := hi) fun y hy => h y (by simp [I.xs, hy])]
 case ssl sz x lo hi => simp only [evI, h x (by simp [I.xs]), optI_congr (lo := lo) fun y hy => h y (by simp [I.xs, hy]), optI_congr (lo := hi) fun y hy => h y (by simp [I.xs, hy])]
 case mkfn f caps => simp only [evI, map_getX (xs := caps) h]
 case call f args => simp only [evI, map_getX (xs := args) h]
 case callv x args => simp only [evI, h x (by simp [I.xs]), map_getX (xs := args) fun y hy => h y (by simp [I.xs, hy])]
 case min xs => simp only [evI, map_getX (xs := xs) h]
 case max xs => simp only [evI, map_getX (xs := xs) h]
 case alloc zs => rfl
 case copy => rfl
 case clear => rfl
 case pick a b c => simp only [evI, h a (by simp [I.xs]), h b (by simp [I.xs]), h c (by simp [I.xs])]
 case bin o x y => simp only [evI, h x (by simp [I.xs]), h y (by simp [I.xs])]
 case eqa o ks x y => simp only [evI, h x (by simp [I.xs]), h y (by simp [I.xs])]
 case beq o x y => simp only [evI, h x (by simp [I.xs]), h y (by simp [I.xs])]
 case iadr o x y => simp only [evI, h x (by simp [I.xs]), h y (by simp [I.xs])]
 case idx x y => simp only [evI, h x (by simp [I.xs]), h y (by simp [I.xs])]
 case mksl a b c x y => simp only [evI, h x (by simp [I.xs]), h y (by simp [I.xs])]
 case store n x y => simp only [evI, h x (by simp [I.xs]), h y (by simp [I.xs])]
 case app a b c x y => simp only [evI, h x (by simp [I.xs]), h y (by simp [I.xs])]
 case mv x => simp only [evI, h x (by simp [I.xs])]
 case not x => simp only [evI, h x (by simp [I.xs])]
 case neg x => simp only [evI, h x (by simp [I.xs])]
 case conv k x => simp only [evI, h x (by simp [I.xs])]
 case cstr x => simp only [evI, h x (by simp [I.xs])]
 case b2s x => simp only [evI, h x (by simp [I.xs])]
 case box x => simp only [evI, h x (by simp [I.xs])]
 case load a n x => simp only [evI, h x (by simp [I.xs])]
 case nilc x => simp only [evI, h x (by simp [I.xs])]
 case fadr a x => simp only [evI, h x (by simp [I.xs])]
 case ext x a => simp only [evI, h x (by simp [I.xs])]
 case len x => simp only [evI, h x (by simp [I.xs])]
 case lens x => simp only [evI, h x (by simp [I.xs])]
theorem getX_of_tmps {ts ts' : Ts} {ins : I} (h : ∀ t, t ∈ ins.tmps → ts.at t = ts'.at t) (x : X) (hx : x ∈ ins.xs) : getX ts x = getX ts' x := by
 cases x with
 | t n => exact h n (by simp only [I.tmps, List.mem_flatMap]; exact ⟨_, hx, by simp [X.tmps]⟩)
 | c v => rfl
theorem evI_congr {call : CallF} {G : Nat → Option CF} {me : CF} {ins : I} {ts ts' : Ts} {nb : Nat} {os : List Obj} (h : ∀ t, t ∈ ins.tmps → ts.at t = ts'.at t) : evI call G me ins ts nb os = evI call G me ins ts' nb os := evI_congr' (getX_of_tmps h)
theorem opIds_congr {ins : I} {ts ts' : Ts} (h : ∀ t, t ∈ ins.tmps → ts.at t = ts'.at t) : opIds ts ins = opIds ts' ins := by
 unfold opIds
 rw [map_getX (getX_of_tmps h)]
theorem rdV_congr {me : CF} {ins : I} {ts ts' : Ts} {os : List Obj} (h : ∀ t, t ∈ ins.tmps → ts.at t = ts'.at t) : rdV me ins ts os = rdV me ins ts' os := by
 unfold rdV
 rw [evI_congr h]
theorem callSel_congr {G : Nat → Option CF} {ins : I} {ts ts' : Ts} {os : List Obj} (h : ∀ t, t ∈ ins.tmps → ts.at t = ts'.at t) : callSel G ts os ins = callSel G ts' os ins := by
 replace h := getX_of_tmps h
 cases ins
 case call f args => simp only [callSel, map_getX (xs := args) h]
 case callv x args => simp only [callSel, h x (by simp [I.xs]), map_getX (xs := args) fun y hy => h y (by simp [I.xs, hy])]
 all_goals rfl
theorem evI_rd {call : CallF} {G : Nat → Option CF} {me : CF} {ins : I} {ts : Ts} {nb : Nat} {os : List Obj} (h : ins.reads = true) : evI call G me ins ts nb os = (rdV me ins ts os).map fun v => (v, os) := by
 cases ins <;> simp only [I.reads, reduceCtorEq] at h <;> simp only [rdV, evI, AV.force_eq, forceL_eq, Option.map_map, Function.comp_def, Option.map_some] <;>
  first
  | rfl
  | (split <;> first | rfl | (simp only [Option.map_map, Function.comp_def, Option.map_some, Option.map_none]; done) | (split <;> first | rfl | (simp only [Option.map_map, Function.comp_def, Option.map_some, Option.map_none]; done)))
def Agree (l : List Nat) (os os' : List Obj) : Prop := ∀ q, q ∈ l → os.getD q .dead = os'.getD q .dead
theorem loadAV_os {agg : Bool} {n : Nat} {a : AV} {os os' : List Obj} (h : Agree a.ids os os') : loadAV agg n a os = loadAV agg n a os' := by
 cases a <;> simp only [loadAV, AV.ids, Agree, List.mem_singleton, forall_eq] at * <;> first | rfl | rw [h]
theorem lenAV_os {a : AV} {os os' : List Obj} (h : Agree a.ids os os') : lenAV a os = lenAV a os' := by
 cases a <;> simp only [lenAV, AV.ids, Agree, List.mem_singleton, forall_eq] at * <;> first | rfl | rw [h]
theorem iadrAV_os {sz : Nat} {i : Int} {a : AV} {os os' : List Obj} (h : Agree a.ids os os') : iadrAV sz a i os = iadrAV sz a i os' := by
 cases a <;> simp only [iadrAV, AV.ids, Agree, List.mem_singleton, forall_eq] at * <;> first | rfl | rw [h]
theorem sslAV_os {sz : Nat} {lo hi : Option Int} {a : AV} {os os' : List Obj} (h : Agree a.ids os os') : sslAV sz a lo hi os = sslAV sz a lo hi os' := by
 cases a <;> simp only [sslAV, AV.ids, Agree, List.mem_singleton, forall_eq] at * <;> first | rfl | rw [h]
theorem rdV_os {me : CF} {ins : I} {ts : Ts} {os os' : List Obj} (hr : ins.reads = true) (h : ins.looks = true → Agree (opIds ts ins) os os') : rdV me ins ts os = rdV me ins ts os' := by
 have hid : ∀ x, ins.xs = [x] ∨ (∃ l, ins.xs = x :: l) → ins.looks = true → Agree (getX ts x).ids os os' := by
  intro x hx hl q hq
  refine h hl q ?_
  unfold opIds
  rcases hx with hx | ⟨l, hx⟩ <;> rw [hx] <;> simp [AV.idsL, hq]
 cases ins
 case load a n x =>
  have := loadAV_os (agg := a) (n := n) (hid x (.inl rfl) rfl)
  simp only [rdV, evI, this, Option.map_map]; rfl
 case len x =>
  have := lenAV_os (hid x (.inl rfl) rfl)
  simp only [rdV, evI, this, Option.map_map]; rfl
 case iadr sz x i =>
  have := fun n => iadrAV_os (sz := sz) (i := n) (hid x (.inr ⟨_, rfl⟩) rfl)
  simp only [rdV, evI]
  split
  ·rw [this]; simp only [Option.map_map]; rfl
  ·rfl
 case ssl sz x lo hi =>
  have := fun l h => sslAV_os (sz := sz) (lo := l) (hi := h) (hid x (.inr ⟨_, rfl⟩) rfl)
  simp only [rdV, evI]
  split
  ·rw [this]; simp only [Option.map_map]; rfl
  ·rfl
 case b2s x =>
  have := hid x (.inl rfl) rfl
  simp only [rdV, evI]
  generalize getX ts x = v at this
  cases v <;> simp only [Agree, AV.ids, List.mem_singleton, forall_eq] at this ⊢
  ·simp only [Option.map_map]; rfl
  ·rw [this]
   split <;> first | rfl | (simp only [Option.map_map]; rfl)
 all_goals simp only [I.reads, reduceCtorEq] at hr
 all_goals simp only [rdV, evI, AV.force_eq, forceL_eq, Option.map_map, Function.comp_def, Option.map_some]
 all_goals first
  | rfl
  | (split <;> first | rfl | (simp only [Option.map_map, Function.comp_def, Option.map_some, Option.map_none]; done) | (split <;> first | rfl | (simp only [Option.map_map, Function.comp_def, Option.map_some, Option.map_none]; done)))
end Go.Gn

namespace Go.Gn
open Go
def over (g : Nat → Option Obj) (os : List Obj) : List Obj := os.mapIdx fun q x => (g q).getD x
@[simp] theorem over_length (g : Nat → Option Obj) (os : List Obj) : (over g os).length = os.length := by simp [over]
theorem over_get (g : Nat → Option Obj) (os : List Obj) (q : Nat) : (over g os)[q]? = (os[q]?).map fun x => (g q).getD x := by simp [over, List.getElem?_mapIdx]
theorem over_getD (g : Nat → Option Obj) (os : List Obj) (q : Nat) : (over g os).getD q .dead = if q < os.length then (g q).getD (os.getD q .dead) else .dead := by
 rw [List.getD_eq_getElem?_getD, over_get]
 by_cases h : q < os.length
 ·simp [h, List.getD_eq_getElem?_getD]
 ·simp [h, List.getElem?_eq_none (Nat.le_of_not_lt h)]
theorem over_getD_none {g : Nat → Option Obj} {os : List Obj} {q : Nat} (h : g q = none) : (over g os).getD q .dead = os.getD q .dead := by
 rw [over_getD, h]
 by_cases hq : q < os.length
 ·simp [hq]
 ·simp [hq, List.getD_eq_getElem?_getD, List.getElem?_eq_none (Nat.le_of_not_lt hq)]
theorem os_ext {os os' : List Obj} (hl : os.length = os'.length) (h : ∀ q, os.getD q .dead = os'.getD q .dead) : os = os' := by
 apply List.ext_getElem hl
 intro i h1 h2
 have := h i
 simpa [List.getD_eq_getElem?_getD, h1, h2] using this
theorem over_none {g : Nat → Option Obj} {os : List Obj} (h : ∀ q, g q = none) : over g os = os := os_ext (by simp) fun q => over_getD_none (h q)
theorem over_set {g : Nat → Option Obj} {os : List Obj} {p : Nat} {x : Obj} (h : g p = none) : over g (os.set p x) = (over g os).set p x := by
 apply List.ext_getElem?
 intro i
 rw [over_get, List.getElem?_set, List.getElem?_set, over_get, over_length]
 by_cases hp : p = i
 ·subst hp
  by_cases hl : p < os.length
  ·simp [hl, h]
  ·simp [hl]
 ·simp [hp]
theorem over_append {g : Nat → Option Obj} {os l : List Obj} (h : ∀ q, g q ≠ none → q < os.length) : over g (os ++ l) = over g os ++ l := by
 apply List.ext_getElem?
 intro i
 rw [over_get]
 by_cases hi : i < os.length
 ·rw [List.getElem?_append_left hi, List.getElem?_append_left (by simpa using hi), over_get]
 ·rw [List.getElem?_append_right (Nat.le_of_not_lt hi), List.getElem?_append_right (by simpa using hi), over_length]
  have : g i = none := by
   cases hg : g i with
   | none => rfl
   | some x => exact absurd (h i (by rw [hg]; simp)) hi
  rw [this]
  simp
theorem reach_congr {os os' : List Obj} : ∀ (n : Nat) (todo done : List Nat), Agree (reach os n todo done) os os' → reach os n todo done = reach os' n todo done
 | 0, _, done, _ => rfl
 | n + 1, [], done, _ => rfl
 | n + 1, o :: todo, done, h => by
  unfold reach at h ⊢
  split at h
  ·rename_i hc
   rw [if_pos hc, if_pos hc]
   exact reach_congr n todo done h
  ·rename_i hc
   rw [if_neg hc, if_neg hc]
   have ho : os.getD o .dead = os'.getD o .dead := by
    refine h o ?_
    obtain ⟨l, hl⟩ := reach_prefix' os n ((os.getD o .dead).ids ++ todo) (done ++ [o])
    rw [hl]; simp
   rw [← ho]
   exact reach_congr n _ _ h
where
 reach_prefix' (os : List Obj) : ∀ (n : Nat) (todo done : List Nat), ∃ l, reach os n todo done = done ++ l
 | 0, _, done => ⟨[], by simp [reach]⟩
 | n + 1, [], done => ⟨[], by simp [reach]⟩
 | n + 1, o :: todo, done => by
  unfold reach
  split
  ·exact reach_prefix' os n todo done
  ·obtain ⟨l, hl⟩ := reach_prefix' os n ((os.getD o .dead).ids ++ todo) (done ++ [o])
   exact ⟨o :: l, by rw [hl]; simp⟩
theorem lendD_os {os os' : List Obj} {sel : List Nat} {v : AV} (h : Agree v.ids os os') : lendD os sel v = lendD os' sel v := by
 cases v <;> simp only [lendD, AV.ids, Agree, List.mem_singleton, forall_eq] at * <;> first | rfl | rw [h]
theorem lendDs_os {os os' : List Obj} {sel : List Nat} : ∀ {vs : List AV}, Agree (AV.idsL vs) os os' → lendDs os sel vs = lendDs os' sel vs
 | [], _ => rfl
 | v :: vs, h => by
  simp only [lendDs]
  rw [lendD_os (v := v) fun q hq => h q (by simp [AV.idsL, hq]), lendDs_os (vs := vs) fun q hq => h q (by simp [AV.idsL, hq])]
mutual
theorem lend_os {os os' : List Obj} {sel : List Nat} : ∀ (v : AV), Agree v.ids os os' → (∀ q, q ∈ v.ids → Agree (os.getD q .dead).ids os os') → lend os sel v = lend os' sel v
 | .fn f caps, h, h2 => by simp only [lend]; rw [lendL_os caps h h2]
 | .agg cs, h, h2 => by simp only [lend]; rw [lendL_os cs h h2]
 | .ptr o off, h, h2 => by
  simp only [AV.ids, Agree, List.mem_singleton, forall_eq] at h h2
  simp only [lend]
  rw [← h]
  split
  ·rfl
  ·split
   ·rename_i cs hcs
    rw [hcs] at h2
    rw [lendDs_os (vs := cs) h2]
   ·rfl
 | .rp o j c, h, h2 => by
  simp only [AV.ids, Agree, List.mem_singleton, forall_eq] at h
  simp only [lend]; rw [h]
 | .hw o, h, h2 => by
  simp only [AV.ids, Agree, List.mem_singleton, forall_eq] at h
  simp only [lend]; rw [h]
 | .hs o lo len, h, h2 => by
  simp only [AV.ids, Agree, List.mem_singleton, forall_eq] at h h2
  simp only [lend]
  rw [← h]
  split
  ·rfl
  ·split
   ·rfl
   ·rfl
   ·rename_i cs hcs
    rw [hcs] at h2
    rw [lendDs_os (vs := cs) h2]
   ·rfl
 | .sub o j len, h, h2 => by
  simp only [AV.ids, Agree, List.mem_singleton, forall_eq] at h
  simp only [lend]; rw [h]
 | .subp o j i, h, h2 => rfl
 | .int _ _, _, _ => rfl
 | .bool _, _, _ => rfl
 | .str _, _, _ => rfl
 | .sl _ _, _, _ => rfl
 | .nils, _, _ => rfl
 | .ep _ _ _, _, _ => rfl
 | .nilp, _, _ => rfl
 | .tup _, _, _ => rfl
 | .un, _, _ => rfl
 | .top, _, _ => rfl
theorem lendL_os {os os' : List Obj} {sel : List Nat} : ∀ (vs : List AV), Agree (AV.idsL vs) os os' → (∀ q, q ∈ AV.idsL vs → Agree (os.getD q .dead).ids os os') → lendL os sel vs = lendL os' sel vs
 | [], _, _ => rfl
 | v :: vs, h, h2 => by
  simp only [lendL]
  rw [lend_os v (fun q hq => h q (by simp [AV.idsL, hq])) (fun q hq => h2 q (by simp [AV.idsL, hq])), lendL_os vs (fun q hq => h q (by simp [AV.idsL, hq])) (fun q hq => h2 q (by simp [AV.idsL, hq]))]
end
theorem passArgs_os {os os' : List Obj} {sel : List Nat} : ∀ (bs : List Bool) (vs : List AV), Agree (AV.idsL vs) os os' → (∀ q, q ∈ AV.idsL vs → Agree (os.getD q .dead).ids os os') → passArgs os sel bs vs = passArgs os' sel bs vs
 | _, [], _, _ => by simp [passArgs]
 | bs, v :: vs, h, h2 => by
  simp only [passArgs]
  rw [lend_os v (fun q hq => h q (by simp [AV.idsL, hq])) (fun q hq => h2 q (by simp [AV.idsL, hq])), passArgs_os bs.tail vs (fun q hq => h q (by simp [AV.idsL, hq])) (fun q hq => h2 q (by simp [AV.idsL, hq]))]
theorem putBack_over {g : Nat → Option Obj} {sel : List Nat} (hg : ∀ q, q ∈ sel → g q = none) (news os : List Obj) : putBack sel news (over g os) = over g (putBack sel news os) := by
 unfold putBack
 have : ∀ (l : List (Nat × Obj)), (∀ p, p ∈ l → g p.1 = none) → ∀ os, l.foldl (fun os p => os.set p.1 p.2) (over g os) = over g (l.foldl (fun os p => os.set p.1 p.2) os) := by
  intro l
  induction l with
  | nil => intro _ os; rfl
  | cons p l ih =>
   intro h os
   simp only [List.foldl_cons]
   rw [← over_set (h p (by simp)), ih (fun q hq => h q (by simp [hq]))]
 exact this _ (fun p hp => hg p.1 (List.of_mem_zip hp).1) os
theorem putBack_length (sel : List Nat) (news os : List Obj) : (putBack sel news os).length = os.length := by
 unfold putBack
 generalize sel.zip news = l
 induction l generalizing os with
 | nil => rfl
 | cons p l ih => simp only [List.foldl_cons]; rw [ih]; simp
theorem localCall_over {call : CallF} {cf : CF} {demC : Bool} {f : Nat} {args : List AV} {nb : Nat} {os : List Obj} {g : Nat → Option Obj} (hlt : ∀ q, g q ≠ none → q < os.length)
  (hg : ∀ q, q ∈ reach os 40 (refIds cf.byRef args) [] ++ AV.idsL args ++ (AV.idsL args).flatMap (fun o => (os.getD o .dead).ids) → g q = none) :
  localCall call cf demC f args nb (over g os) = (localCall call cf demC f args nb os).map fun p => (p.1, over g p.2) := by
 have hsel : ∀ q, q ∈ reach os 40 (refIds cf.byRef args) [] → g q = none := fun q hq => hg q (by simp [hq])
 have hr : reach (over g os) 40 (refIds cf.byRef args) [] = reach os 40 (refIds cf.byRef args) [] := by
  symm
  exact reach_congr _ _ _ fun q hq => (over_getD_none (hsel q hq)).symm
 have ha : ∀ sel, passArgs (over g os) sel cf.byRef args = passArgs os sel cf.byRef args := by
  intro sel
  symm
  refine passArgs_os _ _ (fun q hq => (over_getD_none (hg q (by simp [hq]))).symm) (fun o ho q hq => (over_getD_none (hg q ?_)).symm)
  rw [List.mem_append]
  exact .inr (List.mem_flatMap.2 ⟨o, ho, hq⟩)
 unfold localCall
 simp only [hr]
 have hp : pickOs (reach os 40 (refIds cf.byRef args) []) (over g os) = pickOs (reach os 40 (refIds cf.byRef args) []) os := by
  unfold pickOs
  refine List.map_congr_left fun q hq => ?_
  rw [over_getD_none (hsel q hq)]
 rw [hp, ha, over_length]
 split
 ·split
  ·rfl
  ·split
   ·rfl
   ·rename_i r os' hcall
    simp only [Option.map_some, Option.some.injEq, Prod.mk.injEq, true_and]
    rw [putBack_over hsel, over_length, putBack_length, List.append_assoc, List.append_assoc, over_append]
    intro q hq
    rw [putBack_length]
    exact hlt q hq
 ·rfl
theorem evI_over {call : CallF} {G : Nat → Option CF} {me : CF} {ins : I} {ts : Ts} {nb : Nat} {os : List Obj} {g : Nat → Option Obj} {sel : List Nat} (hs : callSel G ts os ins = some sel) (hlt : ∀ q, g q ≠ none → q < os.length) (hg : ∀ q, q ∈ sel → g q = none) :
  evI call G me ins ts nb (over g os) = (evI call G me ins ts nb os).map fun p => (p.1, over g p.2) := by
 cases ins <;> simp only [callSel, reduceCtorEq] at hs
 ·rename_i f args
  simp only [evI, forceL_eq]
  split at hs
  ·rename_i cf hG
   split at hs
   ·cases hs
   ·rename_i hi
    cases hs
    rw [hG]
    simp only [hi, if_false]
    exact localCall_over hlt hg
  ·cases hs
 ·rename_i x args
  simp only [evI, forceL_eq]
  split at hs
  ·rename_i f caps hx
   split at hs
   ·rename_i cf hG
    split at hs
    ·cases hs
    ·rename_i hi
     cases hs
     simp only [hG, hi, if_false]
     exact localCall_over hlt hg
   ·cases hs
  ·cases hs
end Go.Gn

namespace Go.Gn
open Go
theorem hasN_iff {l : List Nat} {n : Nat} : hasN l n = true ↔ n ∈ l := by
 induction l with
 | nil => simp [hasN]
 | cons x l ih =>
  simp only [hasN, List.mem_cons]
  cases hb : Nat.beq x n with
  | true => have := Nat.eq_of_beq_eq_true hb; simp [this]
  | false =>
   have : n ≠ x := fun h => by rw [h, Nat.beq_refl] at hb; cases hb
   simp [ih, this]
def nodupN : List Nat → Bool
 | [] => true
 | x :: l => !hasN l x && nodupN l
theorem nodupN_iff {l : List Nat} : nodupN l = true → l.Nodup := by
 induction l with
 | nil => intro; exact .nil
 | cons x l ih =>
  intro h
  simp only [nodupN, Bool.and_eq_true, Bool.not_eq_true'] at h
  refine List.nodup_cons.2 ⟨fun hm => ?_, ih h.2⟩
  rw [hasN_iff.2 hm] at h
  cases h.1
def ck1 (nt : Nat) (ops : List O) : Bool := ops.all fun o => match o.dst with | some t => Nat.blt t nt | none => true
def ck2 (ops : List O) : Bool := (List.range ops.length).all fun i => match ops[i]? with
 | some o => o.deps.all fun d => Nat.blt d i
 | none => true
def ck3 (cls : List (List Nat)) (ops : List O) : Bool := (List.range ops.length).all fun i => match ops[i]? with
 | none => true
 | some o => (List.range ops.length).all fun j => match ops[j]? with
  | none => true
  | some oj => match oj.dst with
   | none => true
   | some t => (Nat.beq i j || (match o.dst with | some t' => !Nat.beq t t' | none => true)) && (!hasN o.tmps t || hasN (cls.getD i []) j)
def ck4 (cls : List (List Nat)) (frs ws : List Nat) : Bool := ws.all fun i => ws.all (fun m => !Nat.blt m i || hasN (cls.getD i []) m) && frs.all (fun f => !Nat.blt f i || hasN (cls.getD i []) f)
def ck5 (frs : List Nat) (ops : List O) : Bool := nodupN frs && frs.all fun f => match ops[f]? with | some o => o.ins.fresh && o.guard.isNone | none => false
def ck6 (cls : List (List Nat)) (prs : List (Nat × Nat)) (frs ws : List Nat) (ops : List O) : Bool := (List.range ops.length).all fun i => match ops[i]? with
 | none => true
 | some o => !o.ins.looks || (List.range (ops.length + 1)).all fun p => !(Nat.beq p 0 || isC frs ops (p - 1)) || !need cls ws i p || prs.any fun q => Nat.beq q.1 i && Nat.beq q.2 p
def drawOk (nt : Nat) (prs : List (Nat × Nat)) (frs : List Nat) (ops : List O) : Bool :=
 ck1 nt ops && ck2 ops && ck3 (clsOf ops []) ops && ck4 (clsOf ops []) frs ((List.range ops.length).filter (isC frs ops)) && ck5 frs ops && ck6 (clsOf ops []) prs frs ((List.range ops.length).filter (isC frs ops)) ops
abbrev Cl (ops : List O) (i j : Nat) : Prop := j ∈ (clsOf ops []).getD i []
structure DrawP (nt : Nat) (prs : List (Nat × Nat)) (frs : List Nat) (ops : List O) : Prop where
 dst : ∀ (i : Nat) (o : O) (t : Nat), ops[i]? = some o → o.dst = some t → t < nt
 dep : ∀ (i : Nat) (o : O) (d : Nat), ops[i]? = some o → d ∈ o.deps → d < i
 dis : ∀ (i j : Nat) (oi oj : O) (t : Nat), ops[i]? = some oi → ops[j]? = some oj → oi.dst = some t → oj.dst = some t → i = j
 tmp : ∀ (i j : Nat) (oi oj : O) (t : Nat), ops[i]? = some oi → ops[j]? = some oj → oj.dst = some t → t ∈ oi.tmps → Cl ops i j
 chain : ∀ i j, isC frs ops i = true → isC frs ops j = true → i < j → Cl ops j i
 fre : ∀ f, f ∈ frs → ∃ o : O, ops[f]? = some o ∧ o.ins.fresh = true ∧ o.guard = none
 frc : ∀ f, f ∈ frs → ∀ i, isC frs ops i = true → f < i → Cl ops i f
 nd : frs.Nodup
 prs : ∀ (i : Nat) (o : O) (p : Nat), ops[i]? = some o → o.ins.looks = true → p ≤ ops.length → (p = 0 ∨ isC frs ops (p - 1) = true) → need (clsOf ops []) ((List.range ops.length).filter (isC frs ops)) i p = true → (i, p) ∈ prs
theorem lt_of_get {α : Type} {l : List α} {i : Nat} {x : α} (h : l[i]? = some x) : i < l.length := (List.getElem?_eq_some_iff.1 h).1
theorem isC_lt {frs : List Nat} {ops : List O} {i : Nat} (h : isC frs ops i = true) : i < ops.length := by
 simp only [isC, isW, Bool.and_eq_true] at h
 rcases Nat.lt_or_ge i ops.length with h1 | h1
 ·exact h1
 ·rw [List.getElem?_eq_none h1] at h; cases h.1
theorem drawOk_spec {nt : Nat} {prs : List (Nat × Nat)} {frs : List Nat} {ops : List O} (h : drawOk nt prs frs ops = true) : DrawP nt prs frs ops := by
 simp only [drawOk, Bool.and_eq_true] at h
 obtain ⟨⟨⟨⟨⟨h1, h2⟩, h3⟩, h4⟩, h5⟩, h6⟩ := h
 have k3 : ∀ i j oi oj t, ops[i]? = some oi → ops[j]? = some oj → oj.dst = some t → (i = j ∨ ∀ t', oi.dst = some t' → t ≠ t') ∧ (t ∈ oi.tmps → Cl ops i j) := by
  intro i j oi oj t hi hj ht
  have h := List.all_eq_true.1 h3 i (List.mem_range.2 (lt_of_get hi))
  rw [hi] at h
  have h := List.all_eq_true.1 h j (List.mem_range.2 (lt_of_get hj))
  rw [hj] at h
  simp only [ht, Bool.and_eq_true, Bool.or_eq_true] at h
  refine ⟨h.1.imp (fun h => Nat.eq_of_beq_eq_true h) (fun h t' ht' e => ?_), fun hm => ?_⟩
  ·rw [ht'] at h; simp only [e, Nat.beq_refl, Bool.not_true] at h; cases h
  ·rcases h.2 with h | h
   ·rw [hasN_iff.2 hm] at h; cases h
   ·exact hasN_iff.1 h
 have hws : ∀ i, isC frs ops i = true → i ∈ (List.range ops.length).filter (isC frs ops) := fun i hi => List.mem_filter.2 ⟨List.mem_range.2 (isC_lt hi), hi⟩
 have k4 : ∀ i, isC frs ops i = true → (∀ m, isC frs ops m = true → m < i → Cl ops i m) ∧ ∀ f, f ∈ frs → f < i → Cl ops i f := by
  intro i hi
  have h := List.all_eq_true.1 h4 i (hws i hi)
  simp only [Bool.and_eq_true] at h
  refine ⟨fun m hm hlt => ?_, fun f hf hlt => ?_⟩
  ·have h := List.all_eq_true.1 h.1 m (hws m hm)
   have hb : Nat.blt m i = true := by simpa [Nat.blt_eq] using hlt
   simp only [hb, Bool.not_true, Bool.false_or] at h
   exact hasN_iff.1 h
  ·have h := List.all_eq_true.1 h.2 f hf
   have hb : Nat.blt f i = true := by simpa [Nat.blt_eq] using hlt
   simp only [hb, Bool.not_true, Bool.false_or] at h
   exact hasN_iff.1 h
 simp only [ck5, Bool.and_eq_true] at h5
 exact {
  dst := fun i o t hi ht => by
   have h := List.all_eq_true.1 h1 o (List.mem_of_getElem? hi)
   rw [ht] at h
   simpa [Nat.blt_eq] using h
  dep := fun i o d hi hd => by
   have h := List.all_eq_true.1 h2 i (List.mem_range.2 (lt_of_get hi))
   rw [hi] at h
   have h := List.all_eq_true.1 h d hd
   simpa [Nat.blt_eq] using h
  dis := fun i j oi oj t hi hj h1 h2 => ((k3 i j oi oj t hi hj h2).1).elim id (fun h => absurd rfl (h t h1))
  tmp := fun i j oi oj t hi hj h1 h2 => (k3 i j oi oj t hi hj h1).2 h2
  chain := fun i j hi hj hlt => (k4 j hj).1 i hi hlt
  fre := fun f hf => by
   have h := List.all_eq_true.1 h5.2 f hf
   split at h
   ·rename_i o ho
    simp only [Bool.and_eq_true, Option.isNone_iff_eq_none] at h
    exact ⟨o, ho, h⟩
   ·cases h
  frc := fun f hf i hi hlt => (k4 i hi).2 f hf hlt
  nd := nodupN_iff h5.1
  prs := fun i o p hi hl hp hb hn => by
   have h := List.all_eq_true.1 h6 i (List.mem_range.2 (lt_of_get hi))
   rw [hi] at h
   simp only [hl, Bool.not_true, Bool.false_or] at h
   have h := List.all_eq_true.1 h p (List.mem_range.2 (by omega))
   have hb' : (Nat.beq p 0 || isC frs ops (p - 1)) = true := by
    rcases hb with rfl | hb
    ·rfl
    ·rw [hb]; simp
   simp only [hb', hn, Bool.not_true, Bool.false_or, List.any_eq_true, Bool.and_eq_true] at h
   obtain ⟨⟨a, b⟩, h1, h2, h3⟩ := h
   have e1 := Nat.eq_of_beq_eq_true h2
   have e2 := Nat.eq_of_beq_eq_true h3
   simp only at e1 e2
   subst e1; subst e2
   exact h1 }
theorem clsOf_spec : ∀ (os : List O) (acc : List (List Nat)), ∃ l, clsOf os acc = acc ++ l ∧ ∀ k j, j ∈ (acc ++ l).getD (acc.length + k) [] → ∃ o, os[k]? = some o ∧ ∃ d, d ∈ o.deps ∧ (d = j ∨ j ∈ (acc ++ l).getD d [])
 | [], acc => ⟨[], by simp [clsOf], fun k j h => by simp [List.getD_eq_getElem?_getD] at h⟩
 | o :: os, acc => by
  simp only [clsOf]
  generalize hc : (List.range acc.length).filter (fun j => o.deps.any fun d => Nat.beq d j || hasN (acc.getD d []) j) = c
  obtain ⟨l, h1, h2⟩ := clsOf_spec os (acc ++ [c])
  refine ⟨c :: l, by rw [h1]; simp, fun k j hj => ?_⟩
  have e : acc ++ [c] ++ l = acc ++ c :: l := by simp
  rw [e] at h2
  cases k with
  | zero =>
   refine ⟨o, rfl, ?_⟩
   have : (acc ++ c :: l).getD (acc.length + 0) [] = c := by simp [List.getD_eq_getElem?_getD]
   rw [this, ← hc, List.mem_filter, List.any_eq_true] at hj
   obtain ⟨_, d, hd, hj⟩ := hj
   simp only [Bool.or_eq_true] at hj
   refine ⟨d, hd, hj.imp (fun h => Nat.eq_of_beq_eq_true h) (fun h => ?_)⟩
   have h := hasN_iff.1 h
   rw [List.getD_eq_getElem?_getD] at h ⊢
   rcases Nat.lt_or_ge d acc.length with hl | hl
   ·rw [List.getElem?_append_left hl]; exact h
   ·rw [List.getElem?_eq_none hl] at h; simp at h
  | succ k =>
   have := h2 k j (by rw [List.length_append, List.length_singleton, Nat.add_assoc, Nat.add_comm 1 k]; exact hj)
   simpa using this
theorem Cl.inv {ops : List O} {i j : Nat} (h : Cl ops i j) : ∃ o, ops[i]? = some o ∧ ∃ d, d ∈ o.deps ∧ (d = j ∨ Cl ops d j) := by
 obtain ⟨l, h1, h2⟩ := clsOf_spec ops []
 unfold Cl at h ⊢
 rw [h1] at h ⊢
 exact h2 i j (by simpa using h)
theorem cl_closed {ops : List O} {D : Nat → Prop} (hdep : ∀ (i : Nat) (o : O) (d : Nat), ops[i]? = some o → d ∈ o.deps → d < i) (hD : ∀ (i : Nat) (o : O) (d : Nat), ops[i]? = some o → D i → d ∈ o.deps → D d) : ∀ i, D i → ∀ j, Cl ops i j → D j := by
 intro i
 induction i using Nat.strongRecOn with
 | _ i ih =>
  intro hi j hj
  obtain ⟨o, ho, d, hd, h⟩ := hj.inv
  rcases h with rfl | h
  ·exact hD i o d ho hi hd
  ·exact ih d (hdep i o d ho hd) (hD i o d ho hi hd) j h
theorem cl_of_deps {ops : List O} {D : Nat → Prop} (hdep : ∀ (i : Nat) (o : O) (d : Nat), ops[i]? = some o → d ∈ o.deps → d < i) (hD : ∀ (i : Nat) (o : O) (d : Nat), ops[i]? = some o → D i → d ∈ o.deps → D d) {i : Nat} (hi : ∀ (o : O) (d : Nat), ops[i]? = some o → d ∈ o.deps → D d) (j : Nat) (hj : Cl ops i j) : D j := by
 obtain ⟨o, ho, d, hd, h⟩ := hj.inv
 rcases h with rfl | h
 ·exact hi o d ho hd
 ·exact cl_closed hdep hD d (hi o d ho hd) j h
theorem cl_lt {ops : List O} (hdep : ∀ (i : Nat) (o : O) (d : Nat), ops[i]? = some o → d ∈ o.deps → d < i) : ∀ i j, Cl ops i j → j < i := by
 intro i
 induction i using Nat.strongRecOn with
 | _ i ih =>
  intro j hj
  obtain ⟨o, ho, d, hd, h⟩ := hj.inv
  have := hdep i o d ho hd
  rcases h with rfl | h
  ·exact this
  ·exact Nat.lt_trans (ih d this j h) this
end Go.Gn

namespace Go.Gn
open Go
theorem evO_inv {call : CallF} {G : Nat → Option CF} {me : CF} {o : O} {nb : Nat} {st st' : St} (h : evO call G me o nb st = some st') : st.os.length ≤ st'.os.length ∧ ∃ v, st'.ts = putT st.ts o.dst v ∧
  ((∃ t b, o.guard = some (t, b) ∧ v = .un ∧ st'.os = st.os ∧ (st.ts.at t = .un ∨ st.ts.at t = .bool (!b))) ∨ ((∀ t b, o.guard = some (t, b) → st.ts.at t = .bool b) ∧ evI call G me o.ins st.ts nb st.os = some (v, st'.os))) := by
 have go : ∀ {st'}, (match evI call G me o.ins st.ts nb st.os with
   | none => none
   | some (v, os) => match Nat.ble st.os.length os.length with
    | true => some (⟨putT st.ts o.dst v, os⟩ : St)
    | false => none) = some st' → st.os.length ≤ st'.os.length ∧ ∃ v, st'.ts = putT st.ts o.dst v ∧ evI call G me o.ins st.ts nb st.os = some (v, st'.os) := by
  intro st' h
  split at h
  ·cases h
  ·rename_i v os hev
   split at h
   ·rename_i hl
    cases h
    exact ⟨Nat.le_of_ble_eq_true hl, v, rfl, hev⟩
   ·cases h
 simp only [evO] at h
 split at h
 ·rename_i hg
  obtain ⟨h1, v, h2, h3⟩ := go h
  exact ⟨h1, v, h2, .inr ⟨fun t b hh => (by rw [hg] at hh; cases hh), h3⟩⟩
 ·rename_i t b hg
  split at h
  ·rename_i hb
   cases b
   ·simp at h; subst h
    exact ⟨Nat.le_refl _, .un, rfl, .inl ⟨t, false, hg, rfl, rfl, .inr hb⟩⟩
   ·simp only [if_true] at h
    obtain ⟨h1, v, h2, h3⟩ := go h
    exact ⟨h1, v, h2, .inr ⟨fun t' b' hh => (by rw [hg] at hh; cases hh; exact hb), h3⟩⟩
  ·rename_i hb
   cases b
   ·simp only [Bool.false_eq_true, if_false] at h
    obtain ⟨h1, v, h2, h3⟩ := go h
    exact ⟨h1, v, h2, .inr ⟨fun t' b' hh => (by rw [hg] at hh; cases hh; exact hb), h3⟩⟩
   ·simp at h; subst h
    exact ⟨Nat.le_refl _, .un, rfl, .inl ⟨t, true, hg, rfl, rfl, .inr hb⟩⟩
  ·rename_i hb
   cases h
   exact ⟨Nat.le_refl _, .un, rfl, .inl ⟨t, b, hg, rfl, rfl, .inl hb⟩⟩
  ·cases h
theorem evO_of {call : CallF} {G : Nat → Option CF} {me : CF} {o : O} {nb : Nat} {ts : Ts} {os os' : List Obj} {v : AV} (hl : os.length ≤ os'.length)
  (h : (∃ t b, o.guard = some (t, b) ∧ v = .un ∧ os' = os ∧ (ts.at t = .un ∨ ts.at t = .bool (!b))) ∨ ((∀ t b, o.guard = some (t, b) → ts.at t = .bool b) ∧ evI call G me o.ins ts nb os = some (v, os'))) :
  evO call G me o nb ⟨ts, os⟩ = some ⟨putT ts o.dst v, os'⟩ := by
 rcases h with ⟨t, b, hg, rfl, rfl, h⟩ | ⟨hg, h⟩
 ·simp only [evO, hg]
  rcases h with h | h <;> rw [h]
  cases b <;> simp
 ·have hb : Nat.ble os.length os'.length = true := by rw [Nat.ble_eq]; exact hl
  simp only [evO]
  cases hgg : o.guard with
  | none => simp only [h, hb]
  | some g =>
   obtain ⟨t, b⟩ := g
   simp only [hg t b hgg]
   cases b <;> simp [h, hb]
theorem guard_tmps {o : O} {ts ts' : Ts} (h : ∀ t, t ∈ o.tmps → ts.at t = ts'.at t) {t : Nat} {b : Bool} (hg : o.guard = some (t, b)) : ts.at t = ts'.at t := h t (by simp [O.tmps, hg])
theorem ins_tmps {o : O} {ts ts' : Ts} (h : ∀ t, t ∈ o.tmps → ts.at t = ts'.at t) : ∀ t, t ∈ o.ins.tmps → ts.at t = ts'.at t := fun t ht => h t (by simp [O.tmps, ht])
theorem evO_move {call : CallF} {G : Nat → Option CF} {me : CF} {o : O} {nb nb2 : Nat} {st st' : St} {ts2 : Ts} (h : evO call G me o nb st = some st') (ht : ∀ t, t ∈ o.tmps → st.ts.at t = ts2.at t) (F : List Obj → List Obj) (hl : ∀ os, (F os).length = os.length)
  (hF : ∀ v os', evI call G me o.ins ts2 nb st.os = some (v, os') → evI call G me o.ins ts2 nb2 (F st.os) = some (v, F os')) : ∃ v, st'.ts = putT st.ts o.dst v ∧ evO call G me o nb2 ⟨ts2, F st.os⟩ = some ⟨putT ts2 o.dst v, F st'.os⟩ := by
 obtain ⟨hlen, v, h1, h2⟩ := evO_inv h
 refine ⟨v, h1, evO_of (by rw [hl, hl]; exact hlen) ?_⟩
 rcases h2 with ⟨t, b, hg, rfl, ho, h3⟩ | ⟨hg, h3⟩
 ·rw [guard_tmps ht hg] at h3
  exact .inl ⟨t, b, hg, rfl, by rw [ho], h3⟩
 ·refine .inr ⟨fun t b hgg => by rw [← guard_tmps ht hgg]; exact hg t b hgg, hF _ _ ?_⟩
  rw [← evI_congr (ins_tmps ht)]; exact h3
theorem evO_rd {call : CallF} {G : Nat → Option CF} {me : CF} {o : O} {nb nb2 : Nat} {st st' : St} {ts2 : Ts} {os2 : List Obj} (h : evO call G me o nb st = some st') (hr : o.ins.reads = true) (ht : ∀ t, t ∈ o.tmps → st.ts.at t = ts2.at t)
  (hv : rdV me o.ins ts2 os2 = rdV me o.ins ts2 st.os) : ∃ v, st'.ts = putT st.ts o.dst v ∧ st'.os = st.os ∧ evO call G me o nb2 ⟨ts2, os2⟩ = some ⟨putT ts2 o.dst v, os2⟩ := by
 obtain ⟨hlen, v, h1, h2⟩ := evO_inv h
 rcases h2 with ⟨t, b, hg, rfl, ho, h3⟩ | ⟨hg, h3⟩
 ·rw [guard_tmps ht hg] at h3
  exact ⟨_, h1, ho, evO_of (Nat.le_refl _) (.inl ⟨t, b, hg, rfl, rfl, h3⟩)⟩
 ·rw [evI_congr (ins_tmps ht), evI_rd hr] at h3
  cases hd : rdV me o.ins ts2 st.os with
  | none => rw [hd] at h3; cases h3
  | some u =>
   rw [hd] at h3
   simp only [Option.map_some, Option.some.injEq, Prod.mk.injEq] at h3
   obtain ⟨rfl, h3⟩ := h3
   refine ⟨_, h1, h3.symm, evO_of (Nat.le_refl _) (.inr ⟨fun t b hgg => by rw [← guard_tmps ht hgg]; exact hg t b hgg, ?_⟩)⟩
   rw [evI_rd hr, hv, hd]; rfl
def freshOf : I → Option ((Nat → AV) × Obj)
 | .alloc zs => some (fun nb => .ptr nb 0, .box zs)
 | .mks sz len zs [] => match fillAV ((List.replicate len zs).flatten) [] with
  | none => none
  | some cs => if cs.length ≠ len * sz then none else match toDs cs with
   | some ds => some (fun nb => .hw nb, .row sz 0 0 (chunks sz len ds))
   | none => some (fun nb => .hs nb 0 len, .box cs)
 | _ => none
theorem evI_fresh {call : CallF} {G : Nat → Option CF} {me : CF} {ins : I} {ts : Ts} {nb : Nat} {os : List Obj} (h : ins.fresh = true) : evI call G me ins ts nb os = (freshOf ins).map fun r => (r.1 nb, setAt os nb r.2) := by
 cases ins <;> simp only [I.fresh, reduceCtorEq] at h
 ·rfl
 ·rename_i sz len zs ps
  cases ps with
  | cons p ps => simp [I.fresh] at h
  | nil =>
   simp only [evI, freshOf, List.map_nil]
   generalize fillAV _ [] = F
   cases F with
   | none => rfl
   | some cs =>
    simp only
    split
    ·rfl
    ·cases toDs cs <;> rfl
theorem fresh_plain {ins : I} (h : ins.fresh = true) : plain ins = true := by cases ins <;> first | rfl | (simp [I.fresh] at h)
theorem nbOf_get {frs : List Nat} (hnd : frs.Nodup) : ∀ (L : Nat) {j f n : Nat}, frs[j]? = some f → nbOf frs L f n = L + j := by
 induction frs with
 | nil => intro L j f n h; simp at h
 | cons x l ih =>
  intro L j f n h
  simp only [nbOf]
  cases j with
  | zero => simp at h; subst h; simp [Nat.beq_refl]
  | succ j =>
   simp at h
   have hne : x ≠ f := fun e => (List.nodup_cons.1 hnd).1 (e ▸ List.mem_of_getElem? h)
   have hb : Nat.beq x f = false := by
    cases hb : Nat.beq x f with
    | false => rfl
    | true => exact absurd (Nat.eq_of_beq_eq_true hb) hne
   rw [hb]
   simp only [cond_false]
   rw [ih (List.nodup_cons.1 hnd).2 (L + 1) h]
   omega
theorem nbOf_none {frs : List Nat} : ∀ (L : Nat) {i n : Nat}, i ∉ frs → nbOf frs L i n = n := by
 induction frs with
 | nil => intro L i n h; rfl
 | cons x l ih =>
  intro L i n h
  have hne : x ≠ i := fun e => h (e ▸ List.mem_cons_self)
  have hb : Nat.beq x i = false := by
   cases hb : Nat.beq x i with
   | false => rfl
   | true => exact absurd (Nat.eq_of_beq_eq_true hb) hne
  simp only [nbOf, hb, cond_false]
  exact ih (L + 1) (fun hm => h (List.mem_cons_of_mem _ hm))
structure Run (call : CallF) (G : Nat → Option CF) (me : CF) (frs : List Nat) (L i0 : Nat) (ops : List O) (st sf : St) (tr : List St) : Prop where
 len : tr.length = ops.length + 1
 hd : tr[0]? = some st
 last : tr[ops.length]? = some sf
 step : ∀ (k : Nat) (o : O), ops[k]? = some o → ∃ s s', tr[k]? = some s ∧ tr[k + 1]? = some s' ∧ evO call G me o (nbOf frs L (i0 + k) s.os.length) s = some s'
theorem evOpsT_run {call : CallF} {G : Nat → Option CF} {me : CF} {frs : List Nat} {L : Nat} : ∀ (ops : List O) (i0 : Nat) {st sf : St} {tr : List St}, evOpsT call G me frs L i0 ops st = some (sf, tr) → Run call G me frs L i0 ops st sf tr
 | [], i0, st, sf, tr, h => by
  simp only [evOpsT, Option.some.injEq, Prod.mk.injEq] at h
  obtain ⟨rfl, rfl⟩ := h
  exact ⟨rfl, rfl, rfl, fun k o h => by simp at h⟩
 | o :: l, i0, st, sf, tr, h => by
  simp only [evOpsT] at h
  split at h
  ·cases h
  ·rename_i st1 h1
   split at h
   ·cases h
   ·rename_i sf1 tr1 h2
    simp only [Option.some.injEq, Prod.mk.injEq] at h
    obtain ⟨rfl, rfl⟩ := h
    obtain ⟨r1, r2, r3, r4⟩ := evOpsT_run l (i0 + 1) h2
    refine ⟨by simp [r1], rfl, by simpa using r3, fun k o' hk => ?_⟩
    cases k with
    | zero => simp at hk; subst hk; exact ⟨st, st1, rfl, by simpa using r2, by simpa using h1⟩
    | succ k =>
     obtain ⟨s, s', g1, g2, g3⟩ := r4 k o' (by simpa using hk)
     exact ⟨s, s', by simpa using g1, by simpa using g2, by rw [show i0 + (k + 1) = i0 + 1 + k by omega]; exact g3⟩
theorem putT_ne {ts : Ts} {d : Option Nat} {v : AV} {t : Nat} (h : d ≠ some t) : (putT ts d v).at t = ts.at t := by
 cases d with
 | none => rfl
 | some u =>
  have : Nat.beq u t = false := by
   cases hb : Nat.beq u t with
   | false => rfl
   | true => exact absurd (by rw [Nat.eq_of_beq_eq_true hb]) h
  simp only [putT, Ts.at, this]
theorem putT_eq {ts : Ts} {v : AV} {t : Nat} : (putT ts (some t) v).at t = v := by simp [putT, Ts.at, Nat.beq_refl]
section
variable {call : CallF} {G : Nat → Option CF} {me : CF} {frs : List Nat} {L : Nat} {ops : List O} {st sf : St} {tr : List St}
def tsAt (tr : List St) (i : Nat) : Ts := match tr[i]? with
 | some s => s.ts
 | none => []
theorem Run.step' (h : Run call G me frs L 0 ops st sf tr) {k : Nat} {o : O} (hk : ops[k]? = some o) : evO call G me o (nbOf frs L k (osAt tr k).length) ⟨tsAt tr k, osAt tr k⟩ = some ⟨tsAt tr (k + 1), osAt tr (k + 1)⟩ := by
 obtain ⟨s, s', h1, h2, h3⟩ := h.step k o hk
 rw [Nat.zero_add] at h3
 simp only [osAt, tsAt, h1, h2]
 exact h3
theorem Run.ts_last (h : Run call G me frs L 0 ops st sf tr) : ∀ (m k : Nat), k + m = ops.length → ∀ t, (∀ j o, k ≤ j → ops[j]? = some o → o.dst ≠ some t) → (tsAt tr k).at t = sf.ts.at t
 | 0, k, hk, t, _ => by
  have : k = ops.length := by omega
  subst this
  simp only [tsAt, h.last]
 | m + 1, k, hk, t, hn => by
  have hlt : k < ops.length := by omega
  obtain ⟨_, v, e, _⟩ := evO_inv (h.step' (List.getElem?_eq_getElem hlt))
  rw [← h.ts_last m (k + 1) (by omega) t (fun j o hj => hn j o (by omega))]
  simp only at e
  rw [e, putT_ne (hn k _ (Nat.le_refl _) (List.getElem?_eq_getElem hlt))]
theorem Run.len_mono (h : Run call G me frs L 0 ops st sf tr) : ∀ k, k ≤ ops.length → st.os.length ≤ (osAt tr k).length
 | 0, _ => by simp only [osAt, h.hd]; exact Nat.le_refl _
 | k + 1, hk => by
  have hlt : k < ops.length := by omega
  have := (evO_inv (h.step' (List.getElem?_eq_getElem hlt))).1
  exact Nat.le_trans (h.len_mono k (by omega)) this
end
def objF (ops : List O) (f : Nat) : Obj := match ops[f]? with
 | some o => match freshOf o.ins with
  | some r => r.2
  | none => .dead
 | none => .dead
def gF (L : Nat) (frs : List Nat) (ops : List O) (p : Nat → Bool) (q : Nat) : Option Obj :=
 if L ≤ q then match frs[q - L]? with
  | some f => if p f then some (objF ops f) else none
  | none => none
 else none
theorem gF_ne {L : Nat} {frs : List Nat} {ops : List O} {p : Nat → Bool} {q : Nat} (h : gF L frs ops p q ≠ none) : L ≤ q ∧ q < L + frs.length ∧ ∃ f, frs[q - L]? = some f ∧ p f = true := by
 unfold gF at h
 split at h
 ·rename_i hq
  split at h
  ·rename_i f hf
   split at h
   ·rename_i hp
    have := lt_of_get hf
    exact ⟨hq, by omega, f, hf, hp⟩
   ·exact absurd rfl h
  ·exact absurd rfl h
 ·exact absurd rfl h
theorem gF_at {L : Nat} {frs : List Nat} {ops : List O} {p : Nat → Bool} {j f : Nat} (h : frs[j]? = some f) : gF L frs ops p (L + j) = if p f then some (objF ops f) else none := by
 simp [gF, h]
theorem over_gF_or {L : Nat} {frs : List Nat} {ops : List O} {p p' : Nat → Bool} {os : List Obj} (hl : L + frs.length ≤ os.length) : over (gF L frs ops p) (over (gF L frs ops p') os) = over (gF L frs ops fun f => p f || p' f) os := by
 refine os_ext (by simp) fun q => ?_
 rw [over_getD, over_getD, over_getD, over_length]
 by_cases hq : q < os.length
 ·simp only [hq, if_true]
  unfold gF
  split
  ·split
   ·rename_i f hf
    cases hp : p f <;> cases hp' : p' f <;> simp [hp, hp']
   ·rfl
  ·rfl
 ·simp [hq]
theorem isC_of {frs : List Nat} {ops : List O} {i : Nat} {o : O} (h : ops[i]? = some o) : isC frs ops i = true ↔ o.ins.reads = false ∧ i ∉ frs := by
 simp only [isC, isW, h, Bool.and_eq_true, Bool.not_eq_true']
 refine and_congr_right fun _ => ⟨fun hf hm => ?_, fun hf => ?_⟩
 ·rw [hasN_iff.2 hm] at hf; cases hf
 ·cases hb : hasN frs i with
  | false => rfl
  | true => exact absurd (hasN_iff.1 hb) hf
section
variable {call : CallF} {G : Nat → Option CF} {me : CF} {frs : List Nat} {L : Nat} {ops : List O} {st sf : St} {tr : List St} {nt : Nat} {prs : List (Nat × Nat)}
theorem Run.seg (h : Run call G me frs L 0 ops st sf tr) (hok : DrawP nt prs frs ops) (hL : L + frs.length ≤ st.os.length) (p : Nat) : ∀ (m : Nat), p + m ≤ ops.length → (∀ i, isC frs ops i = true → p ≤ i → ¬ i < p + m) →
  osAt tr (p + m) = over (gF L frs ops fun f => Nat.ble p f && Nat.blt f (p + m)) (osAt tr p)
 | 0, hm, _ => by
  symm
  refine over_none fun q => ?_
  cases hg : gF L frs ops (fun f => Nat.ble p f && Nat.blt f (p + 0)) q with
  | none => rfl
  | some x =>
   obtain ⟨_, _, f, _, hp⟩ := gF_ne (by rw [hg]; simp)
   simp [Nat.blt_eq] at hp
   omega
 | m + 1, hm, hc => by
  have ih := h.seg hok hL p m (by omega) (fun i hi h1 h2 => hc i hi h1 (by omega))
  have hlt : p + m < ops.length := by omega
  have hget := List.getElem?_eq_getElem hlt
  generalize ops[p + m] = o at hget
  have hst := h.step' hget
  have hlen := h.len_mono p (by omega)
  have hnc : ¬ isC frs ops (p + m) = true := fun hi => hc _ hi (by omega) (by omega)
  rw [← Nat.add_assoc]
  by_cases hf : p + m ∈ frs
  ·obtain ⟨o', ho', hfr, hgd⟩ := hok.fre _ hf
   rw [hget] at ho'; cases ho'
   obtain ⟨_, v, _, h2⟩ := evO_inv hst
   rcases h2 with ⟨t, b, hg, _⟩ | ⟨_, h2⟩
   ·rw [hgd] at hg; cases hg
   ·simp only [evI_fresh hfr] at h2
    obtain ⟨j, hj⟩ := List.getElem?_of_mem hf
    rw [nbOf_get hok.nd L hj] at h2
    cases hfo : freshOf o.ins with
    | none => rw [hfo] at h2; cases h2
    | some r =>
     rw [hfo] at h2
     simp only [Option.map_some, Option.some.injEq, Prod.mk.injEq] at h2
     have hjl := lt_of_get hj
     rw [← h2.2]
     refine os_ext ?_ fun q => ?_
     ·have : (osAt tr (p + m)).length = (osAt tr p).length := by rw [ih]; simp
      simp only [setAt, List.length_set, List.length_append, List.length_replicate, over_length, this]
      omega
     ·rw [getD_setAt, ih]
      by_cases hq : L + j = q
      ·subst hq
       have e1 : (Nat.ble p (p + m) && Nat.blt (p + m) (p + m + 1)) = true := by rw [Bool.and_eq_true, Nat.ble_eq, Nat.blt_eq]; omega
       have e2 : objF ops (p + m) = r.2 := by simp only [objF, hget, hfo]
       rw [if_pos rfl, over_getD, gF_at hj, if_pos (by omega)]
       simp only [e1, if_true, e2, Option.getD_some]
      ·rw [if_neg hq, over_getD, over_getD]
       have : gF L frs ops (fun f => Nat.ble p f && Nat.blt f (p + m)) q = gF L frs ops (fun f => Nat.ble p f && Nat.blt f (p + m + 1)) q := by
        unfold gF
        split
        ·rename_i hLq
         split
         ·rename_i f hf'
          have hne : f ≠ p + m := by
           rintro rfl
           apply hq
           have hh := (List.getElem?_inj hjl hok.nd).1 (hj.trans hf'.symm)
           omega
          have : Nat.blt f (p + m) = Nat.blt f (p + m + 1) := by
           rw [Bool.eq_iff_iff, Nat.blt_eq, Nat.blt_eq]; omega
          simp only [this]
         ·rfl
        ·rfl
       rw [this]
  ·have hr : o.ins.reads = true := by
    cases hr : o.ins.reads with
    | true => rfl
    | false => exact absurd ((isC_of hget).2 ⟨hr, hf⟩) hnc
   obtain ⟨_, _, he, _⟩ := evO_rd (nb2 := 0) (os2 := osAt tr (p + m)) hst hr (ts2 := tsAt tr (p + m)) (fun _ _ => rfl) rfl
   simp only at he
   rw [he, ih]
   congr 1
   funext q
   unfold gF
   split
   ·split
    ·rename_i f hf'
     have hne : f ≠ p + m := by rintro rfl; exact hf (List.mem_of_getElem? hf')
     have : Nat.blt f (p + m) = Nat.blt f (p + m + 1) := by
      rw [Bool.eq_iff_iff, Nat.blt_eq, Nat.blt_eq]; omega
     simp only [this]
    ·rfl
   ·rfl
theorem Run.seg' (h : Run call G me frs L 0 ops st sf tr) (hok : DrawP nt prs frs ops) (hL : L + frs.length ≤ st.os.length) {p i : Nat} (hpi : p ≤ i) (hi : i ≤ ops.length) (hc : ∀ m, isC frs ops m = true → p ≤ m → ¬ m < i) :
  osAt tr i = over (gF L frs ops fun f => Nat.ble p f && Nat.blt f i) (osAt tr p) := by
 have := h.seg hok hL p (i - p) (by omega) (fun m hm h1 h2 => hc m hm h1 (by omega))
 rwa [show p + (i - p) = i by omega] at this
end
end Go.Gn

namespace Go.Gn
open Go
theorem Frm.congr {c : Cx} {w : World} {nt : Nat} {ts ts' : Ts} {a : Act} (h : Frm c w nt ts a) (he : ∀ t, ts.at t = ts'.at t) : Frm c w nt ts' a := ⟨h.dfs, h.sz, fun t => by rw [← he]; exact h.at_ t⟩
theorem Store.os_congr {w0 : World} {c : Cx} {os os' : List Obj} {w : World} (h : Store w0 c os w) (he : ∀ q, os.getD q .dead = os'.getD q .dead) : Store w0 c os' w := by
 have ho : Owns c.μ os' = Owns c.μ os := by funext o l b; simp only [Owns, he]
 exact ⟨fun o x hx hn => h.obj o x ((he o).trans hx) hn, by rw [ho]; exact h.uniq, by rw [ho]; exact h.lt, h.immlt, h.fixlt, h.othlt, h.sep, h.frame, h.grow, h.same⟩
theorem Inv.pad {M nt : Nat} {c0 c : Cx} {wi w0 w : World} {st : St} {a : Act} (h : Inv M nt c0 wi w0 st c w a) (n : Nat) : Inv M nt c0 wi w0 ⟨st.ts, st.os ++ List.replicate n .dead⟩ c w a :=
 ⟨h.frm, h.str.os_congr fun q => (getD_pad _ _ _).symm, fun q hq => by have := h.dom q hq; simp; omega, h.ext, by have := h.len; simp; omega⟩
theorem Inv.drawn {M nt : Nat} {c0 c : Cx} {wi w0 w : World} {st : St} {a : Act} (h : Inv M nt c0 wi w0 st c w a) (k : Nat) : Inv M nt c0 wi w0 st c { w with drawn := k } a := by
 have e : Ext c w c { w with drawn := k } := ⟨rfl, rfl, fun _ h => h, fun _ m h => ⟨m, h, m.le_refl⟩, fun _ _ => rfl, fun _ _ => rfl, fun _ _ => rfl⟩
 refine ⟨h.frm.mono e, ⟨fun o x hx hn => ?_, h.str.uniq, h.str.lt, h.str.immlt, h.str.fixlt, h.str.othlt, h.str.sep, h.str.frame, h.str.grow, h.str.same⟩, h.dom, h.ext.trans (ExtM.of_ext e fun _ _ h => h), h.len⟩
 obtain ⟨m, h1, h2⟩ := h.str.obj o x hx hn
 exact ⟨m, h1, h2.mono e (fun _ _ => rfl) (fun _ _ _ _ _ _ _ _ _ => rfl)⟩
section
variable {P : Program} {M nt : Nat} {c0 c : Cx} {wi w0 w : World} {st : St} {a : Act} {G : Nat → Option CF} {call : CallF} {me : CF}
theorem free_wp {draw : Bool} {ops : Array Oper} {o : Oper} {co : O} (hc : cO P draw ops o = some co) (hd : ∀ t, co.dst = some t → t < nt) (h : Inv M nt c0 wi w0 st c w a) (hfr : co.ins.fresh = true) (hg : co.guard = none) {nb : Nat} (hnb : c.μ nb = none) (hlt : nb < st.os.length) (hM : M ≤ nb) {v : AV} {os' : List Obj}
  (hev : evI call G me co.ins st.ts nb st.os = some (v, os')) (hlen : os'.length = st.os.length) {K : Act → World → Prop} {Q : Exit → Act → World → Prop}
  (hK : ∀ c' w' a', Inv M nt c0 wi w0 ⟨putT st.ts co.dst v, os'⟩ c' w' a' → (∀ q, c'.μ q ≠ none → c.μ q ≠ none ∨ q = nb) → K a' w') : if Region.wanted o (yielded ops a.tmps) then o.wp P a w K Q else K (a.put o.dst undef) w := by
 obtain ⟨e1, hins, hgd⟩ := cO_inv hc
 have hw : Region.wanted o (yielded ops a.tmps) = true := by
  rcases hgd with ⟨g1, _⟩ | ⟨j, b, oj, d, _, _, _, g⟩
  ·simp [Region.wanted, g1]
  ·rw [hg] at g; cases g
 rw [hw, if_pos rfl]
 obtain ⟨n, w', c', v', h1, h2, h3, h4, h5, h6⟩ := plain_sound h.frm h.str hnb hins (fun _ _ => fresh_plain hfr) hev
 have hinv : Inv M nt c0 wi w0 ⟨putT st.ts co.dst v, os'⟩ c' w' (a.put o.dst v') := by
  refine ⟨by rw [e1]; exact put_frm (h.frm.mono h4) h5 (fun t ht => hd t (e1.trans ht)), h3, fun q hq => ?_, h.ext.trans (ExtM.of_ext h4 fun q hq hn => ?_), by rw [hlen]; exact h.len⟩
  ·rw [hlen]
   rcases h6 q hq with h7 | h7
   ·exact h.dom q h7
   ·omega
  ·cases hm : c'.μ q with
   | none => rfl
   | some m =>
    rcases h6 q (by rw [hm]; simp) with h7 | h7
    ·exact absurd hn h7
    ·omega
 have := hK c' w' _ hinv (fun q hq => (h6 q hq).imp id And.left)
 unfold Oper.wp
 rw [h1]
 rcases h2 with rfl | ⟨rfl, rfl⟩
 ·exact this
 ·exact this
end
theorem gF_congr {L : Nat} {frs : List Nat} {ops : List O} {p p' : Nat → Bool} (h : ∀ f, f ∈ frs → p f = p' f) : gF L frs ops p = gF L frs ops p' := by
 funext q
 unfold gF
 split
 ·split
  ·rename_i f hf
   rw [h f (List.mem_of_getElem? hf)]
  ·rfl
 ·rfl
theorem hits_false {L n : Nat} {l : List Nat} (h : hitsN L n l = false) {q : Nat} (hq : q ∈ l) : ¬ (L ≤ q ∧ q < L + n) := by
 intro ⟨h1, h2⟩
 simp only [hitsN] at h
 have := List.any_eq_false.1 h q hq
 exact this (by rw [Bool.and_eq_true, Nat.ble_eq, Nat.blt_eq]; exact ⟨h1, h2⟩)
theorem apartOk_spec {G : Nat → Option CF} {ts : Ts} {L n : Nat} {frs : List Nat} : ∀ (i : Nat) (ops : List O) (tr : List St), apartOk G ts L n frs i ops tr = true → ∀ k o, ops[k]? = some o → ∃ s, tr[k]? = some s ∧
  (o.ins.looks = true → ∀ q, q ∈ opIds ts o.ins → ¬ (L ≤ q ∧ q < L + n)) ∧
  (o.ins.reads = false → o.ins.looks = false → (i + k) ∉ frs → (∃ f, f ∈ frs ∧ i + k < f) → ∃ sel, callSel G ts s.os o.ins = some sel ∧ ∀ q, q ∈ sel → ¬ (L ≤ q ∧ q < L + n))
 | i, [], tr, _, k, o, hk => by simp at hk
 | i, x :: l, [], h, k, o, hk => by simp [apartOk] at h
 | i, x :: l, s :: tr, h, k, o, hk => by
  simp only [apartOk, Bool.and_eq_true] at h
  cases k with
  | zero =>
   simp at hk; subst hk
   refine ⟨s, rfl, fun hl q hq => ?_, fun hr hl hni hf => ?_⟩
   ·have h := h.1
    rw [hl] at h
    simp only [Bool.not_eq_true'] at h
    exact hits_false h hq
   ·have h := h.1
    rw [hl] at h
    have hb : (!x.ins.reads && !hasN frs i && frs.any fun f => Nat.blt i f) = true := by
     have h1 : hasN frs i = false := by
      cases hb : hasN frs i with
      | false => rfl
      | true => exact absurd (hasN_iff.1 hb) hni
     obtain ⟨f, hf1, hf2⟩ := hf
     have h2 : (frs.any fun f => Nat.blt i f) = true := List.any_eq_true.2 ⟨f, hf1, by rw [Nat.blt_eq]; exact hf2⟩
     rw [hr, h1, h2]; rfl
    rw [hb] at h
    simp only at h
    split at h
    ·rename_i sel hs
     simp only [Bool.not_eq_true'] at h
     exact ⟨sel, hs, fun q hq => hits_false h hq⟩
    ·cases h
  | succ k =>
   obtain ⟨s', h1, h2, h3⟩ := apartOk_spec (i + 1) l tr h.2 k o (by simpa using hk)
   refine ⟨s', by simpa using h1, h2, ?_⟩
   rw [show i + (k + 1) = i + 1 + k by omega]
   exact h3
theorem Same_mem {me : CF} {ops : List O} {ts : Ts} {tr : List St} : ∀ {l : List (Nat × Nat)}, Same me ops ts tr l → ∀ {i p : Nat} {o : O}, (i, p) ∈ l → ops[i]? = some o → rdV me o.ins ts (osAt tr p) = rdV me o.ins ts (osAt tr i)
 | [], _, i, p, o, h, _ => by simp at h
 | (i', p') :: l, hs, i, p, o, h, ho => by
  rcases List.mem_cons.1 h with h | h
  ·cases h
   have := hs.1
   rw [ho] at this
   exact this
  ·exact Same_mem hs.2 h ho
end Go.Gn

namespace Go.Gn
open Go
theorem cO_deps {P : Program} {ops : Array Oper} {o : Oper} {co : O} (hc : cO P true ops o = some co) (d : Nat) : d ∈ co.deps ↔ ∃ e, e ∈ o.after ∧ Region.binds .any e = true ∧ e.on = d := by
 have e : co.deps = (o.after.toList.filter (Region.binds .any)).map (·.on) := by
  simp only [cO, Option.bind_eq_bind, Option.bind_eq_some_iff] at hc
  obtain ⟨ins, hins, hc⟩ := hc
  split at hc
  ·simp only [Option.bind_some, Option.pure_def, Option.some.injEq, if_true] at hc
   rw [← hc]
  ·simp only [Option.bind_eq_some_iff, Option.pure_def, Option.some.injEq, Option.bind_some, if_true] at hc
   obtain ⟨_, _, _, _, hc⟩ := hc
   rw [← hc]
 rw [e]
 simp only [List.mem_map, List.mem_filter, Array.mem_toList_iff]
 constructor
 ·rintro ⟨e, ⟨h1, h2⟩, h3⟩; exact ⟨e, h1, h2, h3⟩
 ·rintro ⟨e, h1, h2, h3⟩; exact ⟨e, ⟨h1, h2⟩, h3⟩
abbrev Ls (listed : Array Bool) (i : Nat) : Prop := listed.getD i false = true
theorem Ls_set {listed : Array Bool} {i j : Nat} (hi : i < listed.size) : Ls (listed.setIfInBounds i true) j ↔ j = i ∨ Ls listed j := by
 unfold Ls
 by_cases h : i = j
 ·subst h; simp [hi]
 ·rw [getD_set_ne false h]
  constructor
  ·exact .inr
  ·rintro (rfl | h2)
   ·exact absurd rfl h
   ·exact h2
section
variable {P : Program} {M nt : Nat} {c0 : Cx} {wi w0 : World} {G : Nat → Option CF} {call : CallF} {me : CF}
variable {frs : List Nat} {L : Nat} {cs : List O} {st sf : St} {tr : List St} {prs : List (Nat × Nat)} {ops : Array Oper}
def gE (L : Nat) (frs : List Nat) (cs : List O) (listed : Array Bool) (p : Nat) : Nat → Option Obj := gF L frs cs fun f => listed.getD f false && Nat.ble p f
structure DI (M nt : Nat) (c0 : Cx) (wi w0 : World) (frs : List Nat) (L : Nat) (cs : List O) (st sf : St) (tr : List St) (listed : Array Bool) (p : Nat) (ts : Ts) (c : Cx) (w : World) (a : Act) : Prop where
 sz : listed.size = cs.length
 cl : ∀ (i : Nat) (o : O) (d : Nat), cs[i]? = some o → Ls listed i → d ∈ o.deps → Ls listed d
 pn : p ≤ cs.length
 bd : p = 0 ∨ isC frs cs (p - 1) = true
 ch : ∀ i, isC frs cs i = true → (Ls listed i ↔ i < p)
 tsv : ∀ t, (∀ (i : Nat) (o : O), cs[i]? = some o → o.dst = some t → Ls listed i → ts.at t = sf.ts.at t) ∧ ((∀ (i : Nat) (o : O), cs[i]? = some o → o.dst = some t → ¬ Ls listed i) → ts.at t = st.ts.at t)
 inv : Inv M nt c0 wi w0 ⟨ts, over (gE L frs cs listed p) (osAt tr p)⟩ c w a
 mu : ∀ (j f : Nat), frs[j]? = some f → ¬ Ls listed f → c.μ (L + j) = none
theorem DI.step (ht : Tbl P G call) (hcs : ∀ (i : Nat) (co : O), cs[i]? = some co → ∃ o, ops[i]? = some o ∧ cO P true ops o = some co) (hlen : cs.length = ops.size) (hok : DrawP nt prs frs cs) (hrun : Run call G me frs L 0 cs st sf tr) (hL : st.os.length = L + frs.length) (hM : M ≤ L)
  (hap : ∀ (k : Nat) (o : O), cs[k]? = some o → (o.ins.looks = true → ∀ q, q ∈ opIds sf.ts o.ins → ¬ (L ≤ q ∧ q < L + frs.length)) ∧
   (o.ins.reads = false → o.ins.looks = false → k ∉ frs → (∃ f, f ∈ frs ∧ k < f) → ∃ sel, callSel G sf.ts (osAt tr k) o.ins = some sel ∧ ∀ q, q ∈ sel → ¬ (L ≤ q ∧ q < L + frs.length)))
  (hsame : Same me cs sf.ts tr prs)
  {listed : Array Bool} {p : Nat} {ts : Ts} {c : Cx} {w : World} {a : Act} (h : DI M nt c0 wi w0 frs L cs st sf tr listed p ts c w a) {i : Nat} (hi : i ∈ Region.ready .any ops listed) {Q : Exit → Act → World → Prop} :
  wpOp P ops Q i (fun a w => ∃ p ts c, DI M nt c0 wi w0 frs L cs st sf tr (listed.setIfInBounds i true) p ts c w a) a w := by
 obtain ⟨hun, o, ho, hdone⟩ := mem_ready.1 hi
 have hin : i < cs.length := by rw [hlen]; exact (Array.getElem?_eq_some_iff.1 ho).1
 have hisz : i < listed.size := by rw [h.sz]; exact hin
 have hnl : ¬ Ls listed i := by
  intro hl
  unfold Ls at hl
  simp [Array.getD_eq_getD_getElem?, hisz] at hl hun
  rw [hl] at hun; cases hun
 have hget := List.getElem?_eq_getElem hin
 generalize cs[i] = co at hget
 obtain ⟨o', ho', hco⟩ := hcs i co hget
 rw [ho] at ho'; cases ho'
 have hset : ∀ j, Ls (listed.setIfInBounds i true) j ↔ j = i ∨ Ls listed j := fun j => Ls_set hisz
 have hcl : ∀ j, Cl cs i j → Ls listed j := fun j hj => cl_of_deps hok.dep h.cl (fun o2 d ho2 hd => by
  rw [hget] at ho2; cases ho2
  obtain ⟨e, h1, h2, h3⟩ := (cO_deps hco d).1 hd
  rw [← h3]; exact hdone e h1 h2) j hj
 have hclz : ∀ i, Ls listed i → ∀ j, Cl cs i j → Ls listed j := cl_closed hok.dep h.cl
 have hdst : ∀ t, co.dst = some t → t < nt := fun t => hok.dst i co t hget
 have htm : ∀ t, t ∈ co.tmps → ts.at t = sf.ts.at t ∧ (tsAt tr i).at t = sf.ts.at t := by
  intro t htt
  have h2 : (tsAt tr i).at t = sf.ts.at t := hrun.ts_last (cs.length - i) i (by omega) t (fun j oj hj hoj hd => by
   have := cl_lt hok.dep i j (hok.tmp i j co oj t hget hoj hd htt)
   omega)
  refine ⟨?_, h2⟩
  by_cases hw : ∃ (j : Nat) (oj : O), cs[j]? = some oj ∧ oj.dst = some t
  ·obtain ⟨j, oj, hj, hd⟩ := hw
   exact (h.tsv t).1 j oj hj hd (hcl j (hok.tmp i j co oj t hget hj hd htt))
  ·rw [(h.tsv t).2 (fun j oj hj hd => absurd ⟨j, oj, hj, hd⟩ hw)]
   have h3 := hrun.ts_last cs.length 0 (by omega) t (fun j oj _ hoj hd => hw ⟨j, oj, hoj, hd⟩)
   rw [← h3]; simp only [tsAt, hrun.hd]
 have htw : ∀ t, t ∈ co.tmps → (tsAt tr i).at t = ts.at t := fun t htt => (htm t htt).2.trans (htm t htt).1.symm
 have hstep := hrun.step' hget
 have hlenk : ∀ k, k ≤ cs.length → L + frs.length ≤ (osAt tr k).length := fun k hk => by rw [← hL]; exact hrun.len_mono k hk
 have tsv' : ∀ v, tsAt tr (i + 1) = putT (tsAt tr i) co.dst v → ∀ t, (∀ (j : Nat) (oj : O), cs[j]? = some oj → oj.dst = some t → Ls (listed.setIfInBounds i true) j → (putT ts co.dst v).at t = sf.ts.at t) ∧ ((∀ (j : Nat) (oj : O), cs[j]? = some oj → oj.dst = some t → ¬ Ls (listed.setIfInBounds i true) j) → (putT ts co.dst v).at t = st.ts.at t) := by
  intro v hv t
  by_cases hd : co.dst = some t
  ·have h1 : sf.ts.at t = v := by
    rw [← hrun.ts_last (cs.length - (i + 1)) (i + 1) (by omega) t (fun j oj hj hoj hd2 => by
     have := hok.dis i j co oj t hget hoj hd hd2
     omega), hv, hd, putT_eq]
   refine ⟨fun j oj hj hdj _ => by rw [hd, putT_eq, h1], fun hn => absurd ((hset i).2 (.inl rfl)) (hn i co hget hd)⟩
  ·rw [putT_ne hd]
   refine ⟨fun j oj hj hdj hl => ?_, fun hn => (h.tsv t).2 (fun j oj hj hdj hl => hn j oj hj hdj ((hset j).2 (.inr hl)))⟩
   rcases (hset j).1 hl with rfl | hl
   ·rw [hget] at hj; cases hj; exact absurd hdj hd
   ·exact (h.tsv t).1 j oj hj hdj hl
 have cl' : ∀ (j : Nat) (oj : O) (d : Nat), cs[j]? = some oj → Ls (listed.setIfInBounds i true) j → d ∈ oj.deps → Ls (listed.setIfInBounds i true) d := by
  intro j oj d hj hl hd
  rw [hset]; right
  rcases (hset j).1 hl with rfl | hl
  ·rw [hget] at hj; cases hj
   obtain ⟨e, h1, h2, h3⟩ := (cO_deps hco d).1 hd
   rw [← h3]; exact hdone e h1 h2
  ·exact h.cl j oj d hj hl hd
 have sz' : (listed.setIfInBounds i true).size = cs.length := by rw [Array.size_setIfInBounds]; exact h.sz
 have pack : (if Region.wanted o (yielded ops a.tmps) then o.wp P a w (fun a w => ∃ p ts c, DI M nt c0 wi w0 frs L cs st sf tr (listed.setIfInBounds i true) p ts c w a) Q else (∃ p ts c, DI M nt c0 wi w0 frs L cs st sf tr (listed.setIfInBounds i true) p ts c w (a.put o.dst undef))) →
   wpOp P ops Q i (fun a w => ∃ p ts c, DI M nt c0 wi w0 frs L cs st sf tr (listed.setIfInBounds i true) p ts c w a) a w := by
  intro hh
  unfold wpOp
  simp only [ho]
  split
  ·rename_i hw; rw [if_pos hw] at hh; exact .inl hh
  ·rename_i hw; rw [if_neg hw] at hh; exact hh
 apply pack
 have ebool : ∀ f, f ≠ i → (listed.setIfInBounds i true).getD f false = listed.getD f false := fun f hf => getD_set_ne false (Ne.symm hf)
 by_cases hfree : i ∈ frs
 ·
  obtain ⟨j, hj⟩ := List.getElem?_of_mem hfree
  have hjl := lt_of_get hj
  obtain ⟨o2, ho2, hfr, hgd⟩ := hok.fre i hfree
  rw [hget] at ho2; cases ho2
  have hpi : p ≤ i := by
   rcases Nat.lt_or_ge i p with hlt | hge
   ·exfalso
    rcases h.bd with h0 | hb
    ·omega
    ·have hl := (h.ch _ hb).2 (by omega)
     by_cases he : p - 1 = i
     ·rw [he] at hb
      exact ((isC_of hget).1 hb).2 hfree
     ·exact hnl (hclz _ hl i (hok.frc i hfree _ hb (by omega)))
   ·exact hge
  obtain ⟨_, v, hv1, hv2⟩ := evO_inv hstep
  rcases hv2 with ⟨t, b, hg, _⟩ | ⟨_, hv2⟩
  ·rw [hgd] at hg; cases hg
  ·simp only [evI_fresh hfr, nbOf_get hok.nd L hj] at hv2
   cases hfo : freshOf co.ins with
   | none => rw [hfo] at hv2; cases hv2
   | some r =>
    rw [hfo] at hv2
    simp only [Option.map_some, Option.some.injEq, Prod.mk.injEq] at hv2
    obtain ⟨rfl, _⟩ := hv2
    have hos : (over (gE L frs cs listed p) (osAt tr p)).length = (osAt tr p).length := by simp
    have hlp := hlenk p h.pn
    have e2 : objF cs i = r.2 := by simp only [objF, hget, hfo]
    have eos : setAt (over (gE L frs cs listed p) (osAt tr p)) (L + j) r.2 = over (gE L frs cs (listed.setIfInBounds i true) p) (osAt tr p) := by
     refine os_ext ?_ fun q => ?_
     ·simp only [setAt, List.length_set, List.length_append, List.length_replicate, over_length]; omega
     ·rw [getD_setAt]
      by_cases hq : L + j = q
      ·subst hq
       rw [if_pos rfl, over_getD, gE, gF_at hj, if_pos (by omega)]
       have e1 : ((listed.setIfInBounds i true).getD i false && Nat.ble p i) = true := by
        rw [Bool.and_eq_true, Nat.ble_eq]
        exact ⟨(hset i).2 (.inl rfl), hpi⟩
       simp only [e1, if_true, e2, Option.getD_some]
      ·rw [if_neg hq, over_getD, over_getD]
       have : gE L frs cs listed p q = gE L frs cs (listed.setIfInBounds i true) p q := by
        unfold gE gF
        split
        ·rename_i hLq
         split
         ·rename_i f hf'
          have hne : f ≠ i := by
           rintro rfl
           apply hq
           have hh := (List.getElem?_inj hjl hok.nd).1 (hj.trans hf'.symm)
           omega
          simp only [ebool f hne]
         ·rfl
        ·rfl
       rw [this]
    refine free_wp (nb := L + j) hco hdst h.inv hfr hgd (h.mu j i hj hnl) (by simp only [hos]; omega) (by omega) (call := call) (G := G) (me := me) (by simp only [evI_fresh hfr, hfo, Option.map_some]; rfl) (by rw [eos]; simp) (fun c' w' a' hinv hmu => ⟨p, _, c', sz', cl', h.pn, h.bd, fun m hm => ?_, tsv' _ hv1, by rw [← eos]; exact hinv, fun j' f hj' hf => ?_⟩)
    ·rw [hset]
     constructor
     ·rintro (rfl | hl)
      ·exact absurd hfree ((isC_of hget).1 hm).2
      ·exact (h.ch m hm).1 hl
     ·exact fun hl => .inr ((h.ch m hm).2 hl)
    ·have hf2 : ¬ Ls listed f := fun hl => hf ((hset f).2 (.inr hl))
     have hne : j' ≠ j := by
      rintro rfl
      rw [hj] at hj'; cases hj'
      exact hf ((hset _).2 (.inl rfl))
     cases hc' : c'.μ (L + j') with
     | none => rfl
     | some m =>
      rcases hmu (L + j') (by rw [hc']; simp) with h1 | h1
      ·exact absurd (h.mu j' f hj' hf2) h1
      ·omega
 ·by_cases hr : co.ins.reads = true
  ·
   have hni : ¬ isC frs cs i = true := fun hh => by have := ((isC_of hget).1 hh).1; rw [hr] at this; cases this
   have hrd : rdV me co.ins ts (over (gE L frs cs listed p) (osAt tr p)) = rdV me co.ins ts (osAt tr i) := by
    cases hl : co.ins.looks with
    | false => exact rdV_os hr (fun h => by rw [hl] at h; cases h)
    | true =>
     have hids : ∀ q, q ∈ opIds ts co.ins → ¬ (L ≤ q ∧ q < L + frs.length) := by
      intro q hq
      rw [opIds_congr (ts' := sf.ts) (fun t htt => (htm t (by simp [O.tmps, htt])).1)] at hq
      exact (hap i co hget).1 hl q hq
     have hag : ∀ (pp : Nat → Bool) os, Agree (opIds ts co.ins) (over (gF L frs cs pp) os) os := by
      intro pp os q hq
      refine over_getD_none ?_
      cases hg : gF L frs cs pp q with
      | none => rfl
      | some x =>
       obtain ⟨h1, h2, _⟩ := gF_ne (by rw [hg]; simp)
       exact absurd ⟨h1, h2⟩ (hids q hq)
     refine (rdV_os hr fun _ => hag _ _).trans ?_
     by_cases hn : need (clsOf cs []) ((List.range cs.length).filter (isC frs cs)) i p = true
     ·have := Same_mem hsame (hok.prs i co p hget hl h.pn h.bd hn) hget
      rw [rdV_congr (ts' := sf.ts) (fun t htt => (htm t (by simp [O.tmps, htt])).1), rdV_congr (ts' := sf.ts) (fun t htt => (htm t (by simp [O.tmps, htt])).1)]
      exact this
     ·have hno : ∀ m, isC frs cs m = true → ¬ (p ≤ m ∧ m < i) ∧ ¬ (i ≤ m ∧ m < p) := by
       intro m hm
       have hmem : m ∈ (List.range cs.length).filter (isC frs cs) := List.mem_filter.2 ⟨List.mem_range.2 (isC_lt hm), hm⟩
       have hnn : ∀ {b : Bool}, ¬ b = true → b = false := fun {b} h => by cases b <;> simp_all
       have hfirst : ((List.range cs.length).filter (isC frs cs)).all (fun m => bif Nat.blt m p then !hasN ((clsOf cs []).getD m []) i else !hasN ((clsOf cs []).getD i []) m) = true := by
        refine List.all_eq_true.2 fun m hm => ?_
        have hmc := (List.mem_filter.1 hm).2
        cases hb : Nat.blt m p with
        | true =>
         simp only [cond_true, Bool.not_eq_true']
         refine hnn fun hh => hnl (hclz m ((h.ch m hmc).2 (by rwa [Nat.blt_eq] at hb)) i (hasN_iff.1 hh))
        | false =>
         simp only [cond_false, Bool.not_eq_true']
         refine hnn fun hh => ?_
         have := (h.ch m hmc).1 (hcl m (hasN_iff.1 hh))
         rw [← Nat.blt_eq, hb] at this; cases this
       have hsec : ¬ ((List.range cs.length).filter (isC frs cs)).any (fun m => (Nat.ble p m && Nat.blt m i) || (Nat.ble i m && Nat.blt m p)) = true := fun hh => hn (by unfold need; rw [hfirst, hh]; rfl)
       constructor
       ·rintro ⟨h1, h2⟩
        exact hsec (List.any_eq_true.2 ⟨m, hmem, by simp only [Bool.or_eq_true, Bool.and_eq_true, Nat.ble_eq, Nat.blt_eq]; exact .inl ⟨h1, h2⟩⟩)
       ·rintro ⟨h1, h2⟩
        exact hsec (List.any_eq_true.2 ⟨m, hmem, by simp only [Bool.or_eq_true, Bool.and_eq_true, Nat.ble_eq, Nat.blt_eq]; exact .inr ⟨h1, h2⟩⟩)
      rcases Nat.le_total p i with hle | hle
      ·rw [hrun.seg' hok (by omega) hle (by omega) (fun m hm h1 h2 => (hno m hm).1 ⟨h1, h2⟩)]
       exact (rdV_os hr fun _ => hag _ _).symm
      ·rw [hrun.seg' hok (by omega) hle h.pn (fun m hm h1 h2 => (hno m hm).2 ⟨h1, h2⟩)]
       exact rdV_os hr fun _ => hag _ _
   obtain ⟨v, hv1, _, hv2⟩ := evO_rd (nb2 := (over (gE L frs cs listed p) (osAt tr p)).length) (ts2 := ts) (os2 := over (gE L frs cs listed p) (osAt tr p)) hstep hr htw hrd
   have hge : gE L frs cs (listed.setIfInBounds i true) p = gE L frs cs listed p := gF_congr fun f hf => by
    have hne : f ≠ i := fun e => hfree (e ▸ hf)
    rw [ebool f hne]
   refine evO_wp ht hco hdst h.inv hv2 (fun c' w' a' hinv hmu => ⟨p, _, c', sz', cl', h.pn, h.bd, fun m hm => ?_, tsv' v hv1, by rw [hge]; exact hinv, fun j f hj hf => ?_⟩)
   ·rw [hset]
    constructor
    ·rintro (rfl | hl)
     ·exact absurd hm hni
     ·exact (h.ch m hm).1 hl
    ·exact fun hl => .inr ((h.ch m hm).2 hl)
   ·have hjl := lt_of_get hj
    cases hc' : c'.μ (L + j) with
    | none => rfl
    | some m =>
     rcases hmu (L + j) (by rw [hc']; simp) with h1 | h1
     ·exact absurd (h.mu j f hj (fun hl => hf ((hset f).2 (.inr hl)))) h1
     ·have := hlenk p h.pn
      simp only [over_length] at h1
      omega
  ·
   have hr : co.ins.reads = false := by simpa using hr
   have hic : isC frs cs i = true := (isC_of hget).2 ⟨hr, hfree⟩
   have hpi : p ≤ i := Nat.le_of_not_lt fun hlt => hnl ((h.ch i hic).2 hlt)
   have hno : ∀ m, isC frs cs m = true → p ≤ m → ¬ m < i := fun m hm h1 h2 => by
    have := (h.ch m hm).1 (hcl m (hok.chain m i hm hic h2))
    omega
   have hseg := hrun.seg' hok (by omega) hpi (by omega) hno
   let g' := gF L frs cs fun f => listed.getD f false && Nat.blt i f
   have hos : over (gE L frs cs listed p) (osAt tr p) = over g' (osAt tr i) := by
    rw [hseg, over_gF_or (hlenk p h.pn)]
    congr 1
    refine gF_congr fun f hf => ?_
    have hne : f ≠ i := fun e => hfree (e ▸ hf)
    rw [Bool.eq_iff_iff]
    simp only [Bool.and_eq_true, Bool.or_eq_true, Nat.ble_eq, Nat.blt_eq]
    constructor
    ·rintro ⟨h1, h2⟩
     rcases Nat.lt_or_ge f i with h3 | h3
     ·exact .inr ⟨h2, h3⟩
     ·exact .inl ⟨h1, by omega⟩
    ·rintro (⟨h1, h2⟩ | ⟨h1, h2⟩)
     ·exact ⟨h1, by omega⟩
     ·exact ⟨hcl f (hok.frc f hf i hic h2), h1⟩
   have hlook : co.ins.looks = false := by
    generalize co.ins = ins at hr
    cases ins <;> first | rfl | (simp [I.reads] at hr)
   have hg'lt : ∀ q, g' q ≠ none → q < L + frs.length := fun q hq => (gF_ne hq).2.1
   obtain ⟨v, hv1, hv2⟩ := evO_move (nb2 := (over g' (osAt tr i)).length) (ts2 := ts) hstep htw (over g') (fun os => by simp) (fun v os' hev => by
    simp only [nbOf_none L hfree, over_length] at hev ⊢
    by_cases hfl : ∃ f, f ∈ frs ∧ i < f
    ·obtain ⟨sel, hs1, hs2⟩ := (hap i co hget).2 hr hlook hfree hfl
     have hs3 : callSel G ts (osAt tr i) co.ins = some sel := by
      rw [callSel_congr (ts' := sf.ts) (fun t htt => (htm t (by simp [O.tmps, htt])).1)]; exact hs1
     rw [evI_over hs3 (fun q hq => Nat.lt_of_lt_of_le (hg'lt q hq) (hlenk i (by omega))) (fun q hq => ?_), hev]
     ·rfl
     ·cases hg : g' q with
      | none => rfl
      | some x =>
       obtain ⟨h1, h2, _⟩ := gF_ne (p := fun f => listed.getD f false && Nat.blt i f) (L := L) (frs := frs) (ops := cs) (q := q) (by rw [show gF L frs cs (fun f => listed.getD f false && Nat.blt i f) q = g' q from rfl, hg]; simp)
       exact absurd ⟨h1, h2⟩ (hs2 q hq)
    ·have hgn : ∀ q, g' q = none := by
      intro q
      cases hg : g' q with
      | none => rfl
      | some x =>
       obtain ⟨_, _, f, hf1, hf2⟩ := gF_ne (p := fun f => listed.getD f false && Nat.blt i f) (L := L) (frs := frs) (ops := cs) (q := q) (by rw [show gF L frs cs (fun f => listed.getD f false && Nat.blt i f) q = g' q from rfl, hg]; simp)
       rw [Bool.and_eq_true, Nat.blt_eq] at hf2
       exact absurd ⟨f, List.mem_of_getElem? hf1, hf2.2⟩ hfl
     rw [over_none hgn, over_none hgn]
     exact hev)
   have hinv0 := h.inv
   rw [hos] at hinv0
   have hge : gE L frs cs (listed.setIfInBounds i true) (i + 1) = g' := gF_congr fun f hf => by
    have hne : f ≠ i := fun e => hfree (e ▸ hf)
    rw [ebool f hne]
    congr 1
   refine evO_wp ht hco hdst hinv0 hv2 (fun c' w' a' hinv hmu => ⟨i + 1, _, c', sz', cl', by omega, .inr (by simpa using hic), fun m hm => ?_, tsv' v hv1, by rw [hge]; exact hinv, fun j f hj hf => ?_⟩)
   ·rw [hset]
    constructor
    ·rintro (rfl | hl)
     ·omega
     ·have := (h.ch m hm).1 hl; omega
    ·intro hl
     by_cases he : m = i
     ·exact .inl he
     ·exact .inr (hcl m (hok.chain m i hm hic (by omega)))
   ·have hjl := lt_of_get hj
    cases hc' : c'.μ (L + j) with
    | none => rfl
    | some m =>
     rcases hmu (L + j) (by rw [hc']; simp) with h1 | h1
     ·exact absurd (h.mu j f hj (fun hl => hf ((hset f).2 (.inr hl)))) h1
     ·have := hlenk i (by omega)
      simp only [over_length] at h1
      omega
end
end Go.Gn

namespace Go.Gn
open Go
section
variable {P : Program} {M nt : Nat} {c0 : Cx} {wi w0 : World} {G : Nat → Option CF} {call : CallF} {me : CF}
variable {frs : List Nat} {L : Nat} {cs : List O} {st sf : St} {tr : List St} {prs : List (Nat × Nat)} {ops : Array Oper}
theorem DI.all (hcs : ∀ (i : Nat) (co : O), cs[i]? = some co → ∃ o, ops[i]? = some o ∧ cO P true ops o = some co) (hlen : cs.length = ops.size) (hok : DrawP nt prs frs cs) {listed : Array Bool} {p : Nat} {ts : Ts} {c : Cx} {w : World} {a : Act} (h : DI M nt c0 wi w0 frs L cs st sf tr listed p ts c w a)
  (hr : Region.ready .any ops listed = []) : ∀ i, i < cs.length → Ls listed i := by
 intro i
 induction i using Nat.strongRecOn with
 | _ i ih =>
  intro hi
  by_cases hl : Ls listed i
  ·exact hl
  ·exfalso
   have hget := List.getElem?_eq_getElem hi
   generalize cs[i] = co at hget
   obtain ⟨o, ho, hco⟩ := hcs i co hget
   have hm : i ∈ Region.ready .any ops listed := by
    refine mem_ready.2 ⟨?_, o, ho, fun e he hb => ?_⟩
    ·have hisz : i < listed.size := by rw [h.sz]; exact hi
     unfold Ls at hl
     simp [Array.getD_eq_getD_getElem?, hisz] at hl ⊢
     exact hl
    ·have hd : e.on ∈ co.deps := (cO_deps hco e.on).2 ⟨e, he, hb, rfl⟩
     have hlt := hok.dep i co e.on hget hd
     exact ih e.on hlt (by omega)
   rw [hr] at hm
   cases hm
theorem DI.fin (hok : DrawP nt prs frs cs) (hrun : Run call G me frs L 0 cs st sf tr) (hL : st.os.length = L + frs.length) {listed : Array Bool} {p : Nat} {ts : Ts} {c : Cx} {w : World} {a : Act} (h : DI M nt c0 wi w0 frs L cs st sf tr listed p ts c w a) (hall : ∀ i, i < cs.length → Ls listed i) :
  Inv M nt c0 wi w0 sf c w a := by
 have hts : ∀ t, ts.at t = sf.ts.at t := by
  intro t
  by_cases hw : ∃ (j : Nat) (oj : O), cs[j]? = some oj ∧ oj.dst = some t
  ·obtain ⟨j, oj, hj, hd⟩ := hw
   exact (h.tsv t).1 j oj hj hd (hall j (lt_of_get hj))
  ·rw [(h.tsv t).2 (fun j oj hj hd => absurd ⟨j, oj, hj, hd⟩ hw)]
   have h3 := hrun.ts_last cs.length 0 (by omega) t (fun j oj _ hoj hd => hw ⟨j, oj, hoj, hd⟩)
   rw [← h3]; simp only [tsAt, hrun.hd]
 have hos : over (gE L frs cs listed p) (osAt tr p) = sf.os := by
  have hs := hrun.seg' hok (by omega) h.pn (Nat.le_refl _) (fun m hm h1 h2 => by
   have := (h.ch m hm).1 (hall m h2); omega)
  have e : osAt tr cs.length = sf.os := by simp only [osAt, hrun.last]
  rw [← e, hs]
  congr 1
  refine gF_congr fun f hf => ?_
  obtain ⟨o, ho, _⟩ := hok.fre f hf
  have hl := lt_of_get ho
  have h1 : listed.getD f false = true := hall f hl
  have h2 : Nat.blt f cs.length = true := by rw [Nat.blt_eq]; exact hl
  simp only [h1, h2, Bool.true_and, Bool.and_true]
 have hi := h.inv
 rw [hos] at hi
 exact ⟨hi.frm.congr hts, hi.str, hi.dom, hi.ext, hi.len⟩
theorem DI.any (ht : Tbl P G call) (hcs : ∀ (i : Nat) (co : O), cs[i]? = some co → ∃ o, ops[i]? = some o ∧ cO P true ops o = some co) (hlen : cs.length = ops.size) (hok : DrawP nt prs frs cs) (hrun : Run call G me frs L 0 cs st sf tr) (hL : st.os.length = L + frs.length) (hM : M ≤ L)
  (hap : ∀ (k : Nat) (o : O), cs[k]? = some o → (o.ins.looks = true → ∀ q, q ∈ opIds sf.ts o.ins → ¬ (L ≤ q ∧ q < L + frs.length)) ∧
   (o.ins.reads = false → o.ins.looks = false → k ∉ frs → (∃ f, f ∈ frs ∧ k < f) → ∃ sel, callSel G sf.ts (osAt tr k) o.ins = some sel ∧ ∀ q, q ∈ sel → ¬ (L ≤ q ∧ q < L + frs.length)))
  (hsame : Same me cs sf.ts tr prs) {Q : Exit → Act → World → Prop} (hQ : ∀ c' w' a', Inv M nt c0 wi w0 sf c' w' a' → Q .normal a' w') :
  ∀ (fuel : Nat) (rem : List Nat) {listed : Array Bool} {p : Nat} {ts : Ts} {c : Cx} {w : World} {a : Act}, (∀ i, i < cs.length → ¬ Ls listed i → i ∈ rem) → rem.length ≤ fuel → DI M nt c0 wi w0 frs L cs st sf tr listed p ts c w a → wpAny P .any ops Q fuel listed a w
 | 0, rem, listed, p, ts, c, w, a, hrem, hlr, h => by
  have he : rem = [] := List.length_eq_zero_iff.1 (by omega)
  subst he
  have hall : ∀ i, i < cs.length → Ls listed i := fun i hi => Classical.byContradiction fun hn => by cases hrem i hi hn
  refine ⟨?_, hQ _ _ _ (h.fin hok hrun hL hall)⟩
  cases hr : Region.ready .any ops listed with
  | nil => rfl
  | cons i l =>
   obtain ⟨hun, o, ho, _⟩ := mem_ready.1 (show i ∈ Region.ready .any ops listed by rw [hr]; simp)
   have hin : i < cs.length := by rw [hlen]; exact (Array.getElem?_eq_some_iff.1 ho).1
   have hl := hall i hin
   have hisz : i < listed.size := by rw [h.sz]; exact hin
   unfold Ls at hl
   simp [Array.getD_eq_getD_getElem?, hisz] at hl hun
   rw [hl] at hun; cases hun
 | fuel + 1, rem, listed, p, ts, c, w, a, hrem, hlr, h => by
  refine ⟨fun hr => hQ _ _ _ (h.fin hok hrun hL (h.all hcs hlen hok hr)), fun i hi => ?_⟩
  have hs := h.step (Q := Q) ht hcs hlen hok hrun hL hM hap hsame hi
  obtain ⟨hun, o, ho, _⟩ := mem_ready.1 hi
  have hin : i < cs.length := by rw [hlen]; exact (Array.getElem?_eq_some_iff.1 ho).1
  have hisz : i < listed.size := by rw [h.sz]; exact hin
  have hnl : ¬ Ls listed i := by
   intro hl
   unfold Ls at hl
   simp [Array.getD_eq_getD_getElem?, hisz] at hl hun
   rw [hl] at hun; cases hun
  have hmem := hrem i hin hnl
  refine wpOp_mono (fun a w hh => ?_) hs
  obtain ⟨p', ts', c', h'⟩ := hh
  refine DI.any ht hcs hlen hok hrun hL hM hap hsame hQ fuel (rem.erase i) (fun j hj hn => ?_) (by rw [List.length_erase_of_mem hmem]; omega) h'
  have h1 := (Ls_set (i := i) (j := j) hisz)
  have hne : j ≠ i := fun e => hn (h1.2 (.inl e))
  exact (List.mem_erase_of_ne hne).2 (hrem j hj (fun hl => hn (h1.2 (.inr hl))))
theorem draw_wp (hm : P.follows .mixedOrders = true) (ht : Tbl P G call) (hcs : ∀ (i : Nat) (co : O), cs[i]? = some co → ∃ o, ops[i]? = some o ∧ cO P true ops o = some co) (hlen : cs.length = ops.size) (hok : DrawP nt prs frs cs)
  {c : Cx} {w : World} {a : Act} {st' : St} (h : Inv M nt c0 wi w0 st c w a) (hv : evDraw call G me prs frs cs st = some st') {id : Nat} {Q : Exit → Act → World → Prop} (hQ : ∀ c' w' a', Inv M nt c0 wi w0 st' c' w' a' → Q .normal a' w') :
  (Code.region id ops true).wp P Q a w := by
 refine wp_region_any hm ?_
 simp only [evDraw] at hv
 split at hv
 ·cases hv
 ·rename_i sf tr hev
  have hrun := evOpsT_run _ _ hev
  split at hv
  ·cases hv
  ·rename_i hapart
   have hsf : sf = st' ∧ Same me cs sf.ts tr prs := by
    split at hv
    ·cases hv; exact ⟨rfl, trivial⟩
    ·split at hv
     ·rename_i hs; cases hv; exact ⟨rfl, hs⟩
     ·cases hv
   obtain ⟨rfl, hsame⟩ := hsf
   have hL : (st.os ++ List.replicate frs.length Obj.dead).length = st.os.length + frs.length := by simp
   refine DI.any (st := ⟨st.ts, st.os ++ List.replicate frs.length .dead⟩) (L := st.os.length) (p := 0) (ts := st.ts) (c := c) ht hcs hlen hok hrun hL h.len ?_ hsame hQ ops.size (List.range cs.length) (fun i hi _ => List.mem_range.2 hi) (by simp [hlen]) ?_
   ·intro k o hk
    cases hf : frs with
    | nil =>
     refine ⟨fun _ q _ ⟨h1, h2⟩ => by simp at h2; omega, fun _ _ _ ⟨f, hf2, _⟩ => by cases hf2⟩
    | cons f0 fl =>
     rw [hf] at hapart
     simp only at hapart
     obtain ⟨s, h1, h2, h3⟩ := apartOk_spec 0 _ _ hapart k o hk
     rw [Nat.zero_add] at h3
     refine ⟨h2, fun hr hl hn hff => ?_⟩
     obtain ⟨sel, h4, h5⟩ := h3 hr hl hn hff
     exact ⟨sel, by simp only [osAt, h1]; exact h4, h5⟩
   ·have hnone : ∀ i, ¬ Ls (Array.replicate ops.size false) i := by
     intro i hi
     unfold Ls at hi
     simp only [Array.getD_eq_getD_getElem?, Array.getElem?_replicate] at hi
     split at hi <;> simp at hi
    have h0 : osAt tr 0 = st.os ++ List.replicate frs.length Obj.dead := by simp only [osAt, hrun.hd]
    have hg : ∀ q, gE st.os.length frs cs (Array.replicate ops.size false) 0 q = none := by
     intro q
     cases hg : gE st.os.length frs cs (Array.replicate ops.size false) 0 q with
     | none => rfl
     | some x =>
      obtain ⟨_, _, f, _, hf⟩ := gF_ne (p := fun f => (Array.replicate ops.size false).getD f false && Nat.ble 0 f) (L := st.os.length) (frs := frs) (ops := cs) (q := q) (by rw [show gF st.os.length frs cs (fun f => (Array.replicate ops.size false).getD f false && Nat.ble 0 f) q = gE st.os.length frs cs (Array.replicate ops.size false) 0 q from rfl, hg]; simp)
      rw [Bool.and_eq_true] at hf
      exact absurd hf.1 (hnone f)
    refine ⟨by simp [hlen], fun i o d _ hl => absurd hl (hnone i), Nat.zero_le _, .inl rfl, fun i _ => ⟨fun hl => absurd hl (hnone i), fun hl => absurd hl (Nat.not_lt_zero i)⟩, fun t => ⟨fun i o _ _ hl => absurd hl (hnone i), fun _ => rfl⟩, ?_, fun j f _ _ => ?_⟩
    ·rw [over_none hg, h0]
     exact (h.pad frs.length).drawn _
    ·cases hm : c.μ (st.os.length + j) with
     | none => rfl
     | some m => have := h.dom (st.os.length + j) (by rw [hm]; simp); omega
end
end Go.Gn

