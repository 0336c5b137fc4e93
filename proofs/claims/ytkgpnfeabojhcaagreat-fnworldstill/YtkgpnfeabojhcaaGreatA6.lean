/- Part 6 of a proof: an evaluator of the program, proved sound, and what it answers. -/
import Derived.Test.YtkgpnfeabojhcaaGreatA5
set_option linter.all false
namespace Go.Gn
open Go
theorem reach_prefix (os : List Obj) : ∀ (n : Nat) (todo done : List Nat), ∃ l, reach os n todo done = done ++ l
 | 0, _, done => ⟨[], by simp [reach]⟩
 | n + 1, [], done => ⟨[], by simp [reach]⟩
 | n + 1, o :: todo, done => by
  unfold reach
  split
  ·exact reach_prefix os n todo done
  ·obtain ⟨l, hl⟩ := reach_prefix os n ((os.getD o .dead).ids ++ todo) (done ++ [o])
   exact ⟨o :: l, by rw [hl]; simp⟩
theorem mask_at (live : List Nat) (ts : Ts) (t : Nat) : (mask live ts).at t = ts.at t ∨ (mask live ts).at t = .top := by
 induction live with
 | nil => right; rfl
 | cons l live ih =>
  simp only [mask, AV.force_eq, Ts.at]
  cases hb : Nat.beq l t with
  | true => left; rw [Nat.eq_of_beq_eq_true hb]
  | false => exact ih
theorem ren_at (ρ : Nat → Option Nat) (ts : Ts) (t : Nat) : (Ts.ren ρ ts).at t = (ts.at t).ren ρ := by
 induction ts with
 | nil => simp [Ts.ren, Ts.at, AV.ren]
 | cons x ts ih =>
  obtain ⟨i, v⟩ := x
  simp only [Ts.ren, AV.force_eq, Ts.at]
  cases hb : Nat.beq i t with
  | true => rfl
  | false => exact ih
theorem Inv.norm {M nt : Nat} {c0 : Cx} {wi w0 : World} {st : St} {c : Cx} {w : World} {a : Act} (h : Inv M nt c0 wi w0 st c w a) (live : List Nat) : ∃ c', Inv M nt c0 wi w0 (norm M live st) c' w a := by
 have e : Gn.norm M live st = ⟨Ts.ren (posOf (reach st.os 400 (((List.range M).flatMap fun o => (st.os.getD o .dead).ids) ++ Ts.ids (mask live st.ts)) (List.range M)) ·) (mask live st.ts), pickOs (reach st.os 400 (((List.range M).flatMap fun o => (st.os.getD o .dead).ids) ++ Ts.ids (mask live st.ts)) (List.range M)) st.os⟩ := rfl
 rw [e]
 generalize hord : reach st.os 400 (((List.range M).flatMap fun o => (st.os.getD o .dead).ids) ++ Ts.ids (mask live st.ts)) (List.range M) = ord
 have hnd : ord.Nodup := by rw [← hord]; exact reach_nodup _ _ _ _ List.nodup_range
 obtain ⟨l, hl⟩ := reach_prefix st.os 400 (((List.range M).flatMap fun o => (st.os.getD o .dead).ids) ++ Ts.ids (mask live st.ts)) (List.range M)
 rw [hord] at hl
 have hget : ∀ i, i < M → ord[i]? = some i := by
  intro i hi
  rw [hl, List.getElem?_append_left (by simpa using hi)]
  simp [hi]
 refine ⟨c.pick ord, ⟨h.frm.dfs, h.frm.sz, fun t => ?_⟩, h.str.pick ord hnd, fun q hq => ?_, h.ext.trans ⟨rfl, rfl, fun _ h => h, fun o ho m hm => ⟨m, by simp [Cx.pick, hget o ho, hm], m.le_refl⟩, fun o ho hn => by simp [Cx.pick, hget o ho, hn], Keep.refl _ _, Keep.refl _ _, Keep.refl _ _⟩, ?_⟩
 ·show RepAV (c.pick ord) w ((Ts.ren (posOf ord) (mask live st.ts)).at t) (a.tmps.getD t undef)
  rw [ren_at]
  rcases mask_at live st.ts t with h1 | h1
  ·rw [h1]; exact (h.frm.at_ t).ren (rn_pick c ord) (fun h => by cases h)
  ·rw [h1]; simp only [AV.ren]; exact .top _
 ·show q < (pickOs ord st.os).length
  simp only [pickOs, List.length_map]
  rcases Nat.lt_or_ge q ord.length with h1 | h1
  ·exact h1
  ·exfalso; apply hq; simp [Cx.pick, List.getElem?_eq_none h1]
 ·show M ≤ (pickOs ord st.os).length
  simp [pickOs, hl]
def regOk (nt : Nat) : C → Bool
 | .skip => true
 | .reg false _ _ ops => ops.all fun o => match o.dst with | some t => Nat.blt t nt | none => true
 | .reg true prs frs ops => drawOk nt prs frs ops
 | .seq a b => regOk nt a && regOk nt b
 | .cond _ a b => regOk nt a && regOk nt b
 | .blk _ c => regOk nt c
 | .loop c => regOk nt c
 | .exit _ => true
 | .ret => true
def exitOf : Xt → Exit
 | .nrm => .normal
 | .ext id => .exit id
 | .ret => .ret
theorem mapM_get {α β : Type} (f : α → Option β) : ∀ {l : List α} {r : List β}, l.mapM f = some r → r.length = l.length ∧ ∀ (i : Nat) (y : β), r[i]? = some y → ∃ x, l[i]? = some x ∧ f x = some y
 | [], r, h => by simp at h; subst h; exact ⟨rfl, fun i y h => by simp at h⟩
 | x :: l, r, h => by
  simp only [List.mapM_cons, Option.bind_eq_bind, Option.bind_eq_some_iff, Option.pure_def, Option.some.injEq] at h
  obtain ⟨y, hy, l', hl, rfl⟩ := h
  obtain ⟨h1, h2⟩ := mapM_get f hl
  refine ⟨by simp [h1], fun i z hz => ?_⟩
  cases i with
  | zero => simp at hz; subst hz; exact ⟨x, by simp, hy⟩
  | succ i => simpa using h2 i z (by simpa using hz)
theorem least {p : Nat → Prop} (h : ∃ n, p n) : ∃ n, p n ∧ ∀ m, m < n → ¬ p m := by
 obtain ⟨n, hn⟩ := h
 induction n using Nat.strongRecOn with
 | _ n ih =>
  by_cases hm : ∃ m, m < n ∧ p m
  ·obtain ⟨m, h1, h2⟩ := hm; exact ih m h1 h2
  ·exact ⟨n, hn, fun m h1 h2 => hm ⟨m, h1, h2⟩⟩
section
variable {P : Program} {M nt : Nat} {c0 : Cx} {wi w0 : World} {G : Nat → Option CF} {call : CallF} {me : CF} {n : Nat}
theorem evC_wp (hm : P.follows .mixedOrders = true) (ht : Tbl P G call) : ∀ (code : Code) {cc : C}, cC P code = some cc → regOk nt cc = true → ∀ {st : St} {c : Cx} {w : World} {a : Act}, Inv M nt c0 wi w0 st c w a → ∀ {x : Xt} {st' : St}, evC call G me M n cc st = some (x, st') → ∀ {Q : Exit → Act → World → Prop},
  (∀ c' w' a', Inv M nt c0 wi w0 st' c' w' a' → Q (exitOf x) a' w') → code.wp P Q a w := by
 intro code
 induction code with
 | skip =>
  intro cc hc _ st c w a h x st' hv Q hQ
  simp only [cC, Option.some.injEq] at hc; subst hc
  simp only [evC, Option.some.injEq, Prod.mk.injEq] at hv
  obtain ⟨rfl, rfl⟩ := hv
  exact wp_skip (hQ c w a h)
 | region id ops draw =>
  intro cc hc hr st c w a h x st' hv Q hQ
  simp only [cC, Option.bind_eq_bind, Option.bind_eq_some_iff, Option.pure_def, Option.some.injEq] at hc
  obtain ⟨os, hos, rfl⟩ := hc
  obtain ⟨hl, hg⟩ := mapM_get _ hos
  cases draw with
  | true =>
   simp only [regOk, if_true] at hr
   simp only [evC, if_true] at hv
   split at hv
   ·cases hv
   ·rename_i st1 h1
    simp only [Option.some.injEq, Prod.mk.injEq] at hv
    obtain ⟨rfl, rfl⟩ := hv
    exact draw_wp hm ht (fun i co hi => by
     obtain ⟨o, ho, hco⟩ := hg i co hi
     exact ⟨o, by simpa using ho, hco⟩) (by simpa using hl) (drawOk_spec hr) h h1 hQ
  | false =>
  simp only [regOk, List.all_eq_true] at hr
  simp only [evC] at hv
  split at hv
  ·cases hv
  ·rename_i st1 h1
   simp only [Option.some.injEq, Prod.mk.injEq] at hv
   obtain ⟨rfl, rfl⟩ := hv
   have := evOps_wp (Q := Q) ht os 0 (fun i co hi => by
    obtain ⟨o, ho, hco⟩ := hg i co hi
    refine ⟨o, by simpa using ho, hco, fun t htd => ?_⟩
    have := hr co (List.mem_of_getElem? hi)
    rw [htd] at this
    simpa [Nat.blt_eq] using this) h h1 (fun c' w' a' h' => hQ c' w' a' h')
   refine wp_region ?_
   rw [List.range_eq_range', ← Array.length_toList, ← hl]
   exact this
 | seq x y ihx ihy =>
  intro cc hc hr st c w a h x' st' hv Q hQ
  simp only [cC, Option.bind_eq_bind, Option.bind_eq_some_iff, Option.pure_def, Option.some.injEq] at hc
  obtain ⟨ca, hca, cb, hcb, rfl⟩ := hc
  simp only [regOk, Bool.and_eq_true] at hr
  simp only [evC] at hv
  split at hv
  ·cases hv
  ·rename_i st1 h1
   exact wp_seq (ihx hca hr.1 h h1 (fun c' w' a' h' => ihy hcb hr.2 h' hv hQ))
  ·rename_i r hne h1
   cases hv
   refine wp_seq (ihx hca hr.1 h h1 (fun c' w' a' h' => ?_))
   cases x' with
   | nrm => exact (hne _ rfl).elim
   | ext id => exact hQ c' w' a' h'
   | ret => exact hQ c' w' a' h'
 | cond t x y ihx ihy =>
  intro cc hc hr st c w a h x' st' hv Q hQ
  simp only [cC, Option.bind_eq_bind, Option.bind_eq_some_iff, Option.pure_def, Option.some.injEq] at hc
  obtain ⟨ct, hct, ca, hca, cb, hcb, rfl⟩ := hc
  simp only [regOk, Bool.and_eq_true] at hr
  simp only [evC] at hv
  have hrep := rep_X h.frm hct
  split at hv
  ·rename_i hb
   rw [hb] at hrep
   generalize hv1 : a.eval t = v1 at hrep
   cases hrep
   exact wp_cond_true hv1 (ihx hca hr.1 h hv hQ)
  ·rename_i hb
   rw [hb] at hrep
   generalize hv1 : a.eval t = v1 at hrep
   cases hrep
   exact wp_cond_false hv1 (ihy hcb hr.2 h hv hQ)
  ·cases hv
 | block id x ih =>
  intro cc hc hr st c w a h x' st' hv Q hQ
  simp only [cC, Option.bind_eq_bind, Option.bind_eq_some_iff, Option.pure_def, Option.some.injEq] at hc
  obtain ⟨cx, hcx, rfl⟩ := hc
  simp only [regOk] at hr
  simp only [evC] at hv
  cases hev : evC call G me M n cx st with
  | none => rw [hev] at hv; cases hv
  | some r =>
   obtain ⟨y, st1⟩ := r
   rw [hev] at hv
   refine wp_block (ih hcx hr h hev (fun c' w' a' h' => ?_))
   cases y with
   | nrm => simp only at hv; cases hv; exact hQ c' w' a' h'
   | ret => simp only at hv; cases hv; exact hQ c' w' a' h'
   | ext i =>
    simp only at hv
    split at hv
    ·rename_i hi
     cases hv
     subst hi
     simp only [exitOf, Exit.inBlock, if_true]
     exact hQ c' w' a' h'
    ·rename_i hi
     cases hv
     simp only [exitOf, Exit.inBlock]
     rw [if_neg hi]
     exact hQ c' w' a' h'
 | exit id =>
  intro cc hc _ st c w a h x st' hv Q hQ
  simp only [cC, Option.some.injEq] at hc; subst hc
  simp only [evC, Option.some.injEq, Prod.mk.injEq] at hv
  obtain ⟨rfl, rfl⟩ := hv
  exact wp_exit (hQ c w a h)
 | ret =>
  intro cc hc _ st c w a h x st' hv Q hQ
  simp only [cC, Option.some.injEq] at hc; subst hc
  simp only [evC, Option.some.injEq, Prod.mk.injEq] at hv
  obtain ⟨rfl, rfl⟩ := hv
  exact wp_ret (hQ c w a h)
 | loop x ih =>
  intro cc hc hr st c w a h x' st' hv Q hQ
  simp only [cC, Option.bind_eq_bind, Option.bind_eq_some_iff, Option.pure_def, Option.some.injEq] at hc
  obtain ⟨cx, hcx, rfl⟩ := hc
  simp only [regOk] at hr
  simp only [evC] at hv
  let I : Nat → Act → World → Prop := fun k a w => ∃ s c, loopN (Gn.norm M me.live) k (exitN M me.out (evC call G me M n cx)) s = some (x', st') ∧ Inv M nt c0 wi w0 s c w a
  obtain ⟨c1, h1⟩ := h.norm me.live
  have h0 : ∃ k, I k a w := ⟨n, _, c1, hv, h1⟩
  classical
  let μ : Act → World → Nat := fun a w => if hh : ∃ k, I k a w then Classical.choose (least hh) else 0
  have hμ : ∀ a w, (∃ k, I k a w) → I (μ a w) a w ∧ ∀ j, I j a w → μ a w ≤ j := by
   intro a w hh
   have := Classical.choose_spec (least hh)
   simp only [μ, dif_pos hh]
   exact ⟨this.1, fun j hj => Nat.le_of_not_lt fun hlt => this.2 j hlt hj⟩
  refine wp_loop (fun a w => ∃ k, I k a w) μ h0 (fun a w hI => ?_)
  obtain ⟨⟨s, c, hl, hinv⟩, hmin⟩ := hμ a w hI
  cases hk : μ a w with
  | zero => rw [hk] at hl; simp [loopN] at hl
  | succ k =>
   rw [hk] at hl
   simp only [loopN] at hl
   cases hev : evC call G me M n cx s with
   | none => simp only [exitN, hev] at hl; cases hl
   | some r =>
    obtain ⟨y, s1⟩ := r
    simp only [exitN, hev] at hl
    refine ih hcx hr hinv hev (fun c' w' a' h' => ?_)
    cases y with
    | nrm =>
     simp only at hl
     obtain ⟨c2, h2⟩ := h'.norm me.live
     have hIk : I k a' w' := ⟨_, c2, hl, h2⟩
     exact ⟨⟨k, hIk⟩, Nat.lt_of_le_of_lt ((hμ a' w' ⟨k, hIk⟩).2 k hIk) (Nat.lt_succ_self k)⟩
    | ret =>
     simp only at hl
     obtain ⟨c2, h2⟩ := h'.norm me.out
     cases hl; exact hQ c2 w' a' h2
    | ext i =>
     simp only at hl
     obtain ⟨c2, h2⟩ := h'.norm me.out
     cases hl; exact hQ c2 w' a' h2
 | _ => intro cc hc; simp [cC] at hc
end
end Go.Gn

namespace Go.Gn
open Go
theorem start_at : ∀ (args : List AV) (i nt : Nat) (t : Nat), (start i args nt).at t = if t < i then .top else if h : t - i < args.length then args[t - i] else if t < nt then .un else .top
 | [], i, nt, t => by
  have key : ∀ (l : List Nat), Ts.at (l.map fun j => (i + j, AV.un)) t = if ∃ j ∈ l, i + j = t then AV.un else AV.top := by
   intro l
   induction l with
   | nil => simp [Ts.at]
   | cons x l ih =>
    simp only [List.map_cons, Ts.at]
    cases hb : Nat.beq (i + x) t with
    | true => have := Nat.eq_of_beq_eq_true hb; simp [this]
    | false =>
     have : i + x ≠ t := fun h => by rw [h, Nat.beq_refl] at hb; cases hb
     simp only [ih, List.mem_cons, exists_eq_or_imp, this, false_or]
  have : start i [] nt = (List.range (nt - i)).map fun j => (i + j, AV.un) := rfl
  rw [this, key]
  by_cases h1 : t < i
  ·rw [if_pos h1, if_neg]
   rintro ⟨j, _, h⟩; omega
  ·rw [if_neg h1]
   simp only [List.length_nil, Nat.not_lt_zero, dite_false]
   by_cases h2 : t < nt
   ·rw [if_pos h2, if_pos]
    exact ⟨t - i, by simp; omega, by omega⟩
   ·rw [if_neg h2, if_neg]
    rintro ⟨j, hj, h⟩; simp at hj; omega
 | v :: vs, i, nt, t => by
  simp only [start, Ts.at]
  cases hb : Nat.beq i t with
  | true =>
   have := Nat.eq_of_beq_eq_true hb
   subst this
   simp
  | false =>
   have hne : i ≠ t := fun h => by rw [h, Nat.beq_refl] at hb; cases hb
   simp only
   rw [start_at vs (i + 1) nt t]
   by_cases h1 : t < i
   ·rw [if_pos (by omega), if_pos h1]
   ·rw [if_neg (by omega), if_neg h1]
    by_cases h2 : t - (i + 1) < vs.length
    ·rw [dif_pos h2, dif_pos (by simp; omega)]
     have : t - i = (t - (i + 1)) + 1 := by omega
     simp [this]
    ·rw [dif_neg h2, dif_neg (by simp; omega)]
theorem start_frm {c : Cx} {w : World} {args : List AV} {vals : List Value} (h : RepAVs c w args vals) {nt : Nat} (hn : args.length ≤ nt) : Frm c w nt (start 0 args nt) { tmps := vals.toArray ++ Array.replicate (nt - vals.toArray.size) undef, defers := [] } := by
 have hl := h.length
 refine ⟨rfl, by simp; omega, fun t => ?_⟩
 rw [start_at]
 simp only [Nat.not_lt_zero, if_false, Nat.sub_zero]
 split
 ·rename_i ht
  obtain ⟨v, hv, hr⟩ := h.get t _ (List.getElem?_eq_getElem ht)
  have : (vals.toArray ++ Array.replicate (nt - vals.toArray.size) undef).getD t undef = v := by
   rw [Array.getD_eq_getD_getElem?, Array.getElem?_append_left (by simp; omega)]
   simp [hv]
  rw [this]; exact hr
 ·rename_i ht
  split
  ·have : (vals.toArray ++ Array.replicate (nt - vals.toArray.size) undef).getD t undef = undef := by
    rw [Array.getD_eq_getD_getElem?, Array.getElem?_append_right (by simp; omega)]
    simp only [Array.getElem?_replicate]
    split <;> rfl
   rw [this]; exact .un
  ·exact .top _
end Go.Gn

namespace Go.Gn
open Go
def cRes (P : Program) : List ResultVar → Option (List (Nat × Option (Bool × Nat)))
 | [] => some []
 | .tmp t :: rs => match cRes P rs with | some l => some ((t, none) :: l) | none => none
 | .cell a t :: rs => match size? P t, P.underlying t, cRes P rs with
  | some n, some u, some l => some ((a, some (isAggD u, n)) :: l)
  | _, _, _ => none
def resM (tmps : Array Value) : ResultVar → Sem Value
 | .tmp t => pure (tmps.getD t undef)
 | .cell a t => do loadVar t (← asAddr (tmps.getD a undef))
theorem resOf_run {P : Program} {c : Cx} {w w0 : World} {nt : Nat} {ts : Ts} {a : Act} {os : List Obj} (hf : Frm c w nt ts a) (hst : Store w0 c os w) : ∀ {rs : List ResultVar} {res : List (Nat × Option (Bool × Nat))}, cRes P rs = some res → ∀ {vs : List AV}, resOf ts os res = some vs →
  ∃ vals, (rs.mapM (resM a.tmps)).run P w = .ok vals w ∧ RepAVs c w vs vals
 | [], res, hc, vs, hv => by
  simp only [cRes, Option.some.injEq] at hc; subst hc
  simp only [resOf, Option.some.injEq] at hv; subst hv
  exact ⟨[], by simp, .nil⟩
 | .tmp t :: rs, res, hc, vs, hv => by
  simp only [cRes] at hc
  split at hc
  ·rename_i l hl
   cases hc
   simp only [resOf, AV.force_eq] at hv
   split at hv
   ·rename_i l2 hl2
    cases hv
    obtain ⟨vals, h1, h2⟩ := resOf_run hf hst hl hl2
    exact ⟨_ :: vals, by simp [resM, h1], .cons _ _ _ _ (hf.at_ t) h2⟩
   ·cases hv
  ·cases hc
 | .cell x t :: rs, res, hc, vs, hv => by
  simp only [cRes] at hc
  split at hc
  ·rename_i n u l hn hu hl
   cases hc
   simp only [resOf] at hv
   split at hv
   ·cases hv
   ·rename_i v hload
    split at hv
    ·rename_i l2 hl2
     cases hv
     obtain ⟨vals, h1, h2⟩ := resOf_run hf hst hl hl2
     obtain ⟨v', g1, g2⟩ := y_load (P := P) (o := { (default : Oper) with op := .load t (.tmp x) }) (x := .tmp x) (X' := .t x) hf hst hu hn rfl rfl hload
     have hr := hf.at_ x
     have hp : ∃ A, a.tmps.getD x undef = .pointer (some A) := by
      generalize ts.at x = ax at hr hload
      generalize a.tmps.getD x undef = q at hr ⊢
      cases hr <;> simp only [loadAV, reduceCtorEq] at hload <;> exact ⟨_, rfl⟩
     obtain ⟨A, hA⟩ := hp
     have hrun : (loadVar t A).run P w = .ok v' w := by
      have e : a.eval (.tmp x) = .pointer (some A) := hA
      simp only [execOp, Instr.loadAt, Instr.sureAddr, e, Sem.run_bind, Sem.run_pure, Result.andThen_ok] at g1
      cases hq : (loadVar t A).run P w with
      | ok u w' => rw [hq] at g1; simp at g1; rw [g1.1, g1.2]
      | halt u w' => rw [hq] at g1; simp [Result.andThen] at g1
     exact ⟨v' :: vals, by simp [resM, hA, asAddr, hrun, h1], .cons _ _ _ _ g2 h2⟩
    ·cases hv
  ·cases hc
end Go.Gn

namespace Go.Gn
open Go
def FnOK (P : Program) (f : Nat) (cf : CF) : Prop :=
 ∃ fn code, P.funcs[f]? = some fn ∧ fn.name ≠ "runtime.NumGoroutine" ∧ fn.body = some code ∧ cC P code = some cf.body ∧ fn.ntmps = cf.nt ∧ cRes P fn.results.toList = some cf.res ∧ regOk cf.nt cf.body = true ∧ P.follows .mixedOrders = true
theorem results_run {P : Program} {fn : Func} {tmps : Array Value} {w : World} {vals : List Value} (h : (fn.results.toList.mapM (resM tmps)).run P w = .ok vals w) : (results fn tmps).run P w = .ok (match vals with | [v] => v | vs => .tuple vs.toArray) w := by
 have e : results fn tmps = (do
   let vs ← fn.results.mapM (resM tmps)
   pure (if h : vs.size = 1 then vs[0] else .tuple vs)) := by
  unfold results
  congr 1
 rw [e]
 rw [Array.mapM_eq_mapM_toList]
 simp only [Sem.run_bind, Sem.run_map, h, Result.andThen_ok, Sem.run_pure]
 rcases vals with _ | ⟨v, _ | ⟨u, vals⟩⟩
 ·simp
 ·simp
 ·simp
theorem fn_core {P : Program} {G : Nat → Option CF} {n f : Nat} {cf : CF} (ht : Tbl P G (evCall G n)) (hok : FnOK P f cf) {args : List AV} {os : List Obj} (hn : args.length ≤ cf.nt) {x : Xt} {st' : St} (hev : evC (evCall G n) G cf os.length n cf.body ⟨start 0 args cf.nt, os⟩ = some (x, st')) (hx : ∀ id, x ≠ .ext id) {vs : List AV} (hres : resOf st'.ts st'.os cf.res = some vs)
  {w0 w : World} {c : Cx} {vals : List Value} (hst : Store w0 c os w) (hdom : ∀ q, c.μ q ≠ none → q < os.length) (ha : RepAVs c w args vals) {R : Value → World → Prop}
  (hR : ∀ v' w' c', Store w0 c' st'.os w' → (∀ q, c'.μ q ≠ none → q < st'.os.length) → ExtM os.length c w c' w' → os.length ≤ st'.os.length → RepAV c' w' (match vs with | [v] => v | vs => .tup vs) v' → R v' w') : Calls P f vals.toArray w (retB R) := by
 obtain ⟨fn, code, h1, h2, h3, h4, h5, h6, h7, h8⟩ := hok
 refine calls_of_wp h1 h3 ?_
 have hinv : Inv os.length cf.nt c w w0 ⟨start 0 args cf.nt, os⟩ c w { tmps := vals.toArray ++ Array.replicate (fn.ntmps - vals.toArray.size) undef, defers := [] } :=
  ⟨by rw [h5]; exact start_frm ha hn, hst, hdom, ExtM.refl _ _ _, Nat.le_refl _⟩
 refine evC_wp h8 ht code h4 h7 hinv hev (fun c' w' a' h' => ?_)
 obtain ⟨rv, g1, g2⟩ := resOf_run (P := P) h'.frm h'.str h6 hres
 have g3 := results_run g1
 have fin : a'.defers = [] ∧ ∃ v, (results fn a'.tmps).run P w' = .ok v w' ∧ retB R (.returned v) w' := by
  refine ⟨h'.frm.dfs, _, g3, hR _ w' c' h'.str h'.dom h'.ext h'.len ?_⟩
  cases g2 with
  | nil => exact .tup _ _ .nil
  | cons a v aS vs ha hs =>
   cases hs with
   | nil => exact ha
   | cons b u bs us hb hbs => exact .tup _ _ (.cons _ _ _ _ ha (.cons _ _ _ _ hb hbs))
 cases x with
 | nrm => exact fin
 | ret => exact fin
 | ext id => exact absurd rfl (hx id)
end Go.Gn

namespace Go.Gn
open Go
mutual
theorem AV.ren_some : ∀ (v : AV), v.ren some = v
  | .fn f caps => by simp only [AV.ren, AV.renL_some caps]
  | .agg cs => by simp only [AV.ren, AV.renL_some cs]
  | .tup vs => by simp only [AV.ren, AV.renL_some vs]
  | .ptr _ _ | .rp _ _ _ | .hw _ | .hs _ _ _ | .sub _ _ _ | .subp _ _ _ => by simp only [AV.ren]
  | .int _ _ | .bool _ | .str _ | .sl _ _ | .nils | .ep _ _ _ | .nilp | .un | .top => by simp only [AV.ren]
theorem AV.renL_some : ∀ (vs : List AV), AV.renL some vs = vs
  | [] => rfl
  | v :: vs => by simp only [AV.renL, AV.ren_some v, AV.renL_some vs]
end
theorem Obj.ren_some (x : Obj) : x.ren some = x := by cases x <;> simp [Obj.ren, AV.renL_some]
theorem RepAV.cx {c c2 : Cx} {w : World} {a : AV} {v : Value} (h : RepAV c w a v) (hf : ∀ b, c.fix b → c2.fix b) (hi : ∀ b, c.imm b → c2.imm b) (hm : c2.μ = c.μ) : RepAV c2 w a v := by
  have := h.ren (nb := false) (ρ := some) (c2 := c2) ⟨fun _ => hf, hi, fun o p m hp h => by cases hp; exact ⟨m, by rw [hm]; exact h, m.le_refl⟩⟩ (fun h => by cases h)
  rwa [AV.ren_some] at this
theorem RepObj.cx {c c2 : Cx} {w : World} {m : Meta} {x : Obj} (h : RepObj c w m x) (hf : ∀ b, c.fix b → c2.fix b) (hi : ∀ b, c.imm b → c2.imm b) (hm : c2.μ = c.μ) : RepObj c2 w m x := by
  have := h.ren (nb := false) (ρ := some) (c2 := c2) ⟨fun _ => hf, hi, fun o p m hp h => by cases hp; exact ⟨m, by rw [hm]; exact h, m.le_refl⟩⟩ (fun h => by cases h)
  rwa [Obj.ren_some] at this
def Cx.shIn (c : Cx) : Cx := { c with imm := fun b => c.imm b ∨ c.fix b, oth := fun b => c.oth b ∧ ¬ c.fix b }
mutual
theorem toSh_rep {c : Cx} {w : World} : ∀ {a : AV} {v : Value}, RepAV c w a v → RepAV c.shIn w a.toSh v
  | _, _, .int k n => by simp only [AV.toSh]; exact .int k n
  | _, _, .bool b => by simp only [AV.toSh]; exact .bool b
  | _, _, .str s => by simp only [AV.toSh]; exact .str s
  | _, _, .sl m xs v h => by
    simp only [AV.toSh]
    refine .sl .sh xs v (h.mono (Keep.refl _ _) fun b hb => ?_)
    cases m
    · exact .inr hb
    · exact .inl hb
  | _, _, .nils => by simp only [AV.toSh]; exact .nils
  | _, _, .ep m cs off b o hb h => by
    have hs : ∀ b, c.set m b → c.shIn.imm b := by
      intro b hb
      cases m
      · exact .inr hb
      · exact .inl hb
    simp only [AV.toSh]
    refine .ep .sh cs off b o (hs b hb) fun i d hd => ?_
    obtain ⟨u, hu, hr⟩ := h i d hd
    exact ⟨u, hu, hr.mono (Keep.refl _ _) hs⟩
  | _, _, .ptr o off b m hm hb => by simp only [AV.toSh]; exact .ptr o off b m hm hb
  | _, _, .rp o j q b m hm hb => by simp only [AV.toSh]; exact .rp o j q b m hm hb
  | _, _, .nilp => by simp only [AV.toSh]; exact .nilp
  | _, _, .hw o m hm => by simp only [AV.toSh]; exact .hw o m hm
  | _, _, .hs o lo len A cap m hm hc h => by simp only [AV.toSh]; exact .hs o lo len A cap m hm hc h
  | _, _, .sub o j len A cap m hm hc h => by simp only [AV.toSh]; exact .sub o j len A cap m hm hc h
  | _, _, .subp o j i b m hm hb => by simp only [AV.toSh]; exact .subp o j i b m hm hb
  | _, _, .fn f caps vs h => by simp only [AV.toSh]; exact .fn f _ vs (toShL_rep h)
  | _, _, .agg cs vs h => by simp only [AV.toSh]; exact .agg _ vs (toShL_rep h)
  | _, _, .tup cs vs h => by simp only [AV.toSh]; exact .tup _ vs (toShL_rep h)
  | _, _, .un => by simp only [AV.toSh]; exact .un
  | _, _, .top v => by simp only [AV.toSh]; exact .top v
theorem toShL_rep {c : Cx} {w : World} : ∀ {aS : List AV} {vs : List Value}, RepAVs c w aS vs → RepAVs c.shIn w (AV.toShL aS) vs
  | _, _, .nil => .nil
  | _, _, .cons a v aS vs h hs => .cons _ _ _ _ (toSh_rep h) (toShL_rep hs)
end
theorem Store.shIn {w0 w : World} {c : Cx} {os : List Obj} (h : Store w0 c os w) : Store w0 c.shIn os w :=
  { obj := fun o x hx hn => let ⟨m, h1, h2⟩ := h.obj o x hx hn; ⟨m, h1, h2.cx (fun _ h => h) (fun _ h => .inl h) rfl⟩
    uniq := h.uniq
    lt := fun o l b ho => let ⟨h1, h2, h3, h4⟩ := h.lt o l b ho; ⟨h1, fun hb => hb.elim h2 h3, h3, fun hb => h4 hb.1⟩
    immlt := fun b hb => hb.elim (h.immlt b) (h.fixlt' b)
    fixlt := h.fixlt
    othlt := fun b hb => h.othlt b hb.1
    sep := fun b hb ho => hb.elim (fun hb => h.sep b hb ho.1) (fun hb => ho.2 hb)
    frame := h.frame
    grow := h.grow
    same := h.same }
mutual
theorem flat_rep {c c2 : Cx} {w : World} (hm : c2.μ = c.μ) : ∀ {a : AV} {v : Value}, RepAV c w a v → a.flat = true → RepAV c2 w a v
  | _, _, .int k n, _ => .int k n
  | _, _, .bool b, _ => .bool b
  | _, _, .str s, _ => .str s
  | _, _, .sl m xs v h, hf => by simp [AV.flat] at hf
  | _, _, .nils, _ => .nils
  | _, _, .ep m cs off b o hb h, hf => by simp [AV.flat] at hf
  | _, _, .ptr o off b m hm' hb, _ => .ptr o off b m (by rw [hm]; exact hm') hb
  | _, _, .rp o j q b m hm' hb, _ => .rp o j q b m (by rw [hm]; exact hm') hb
  | _, _, .nilp, _ => .nilp
  | _, _, .hw o m hm', _ => .hw o m (by rw [hm]; exact hm')
  | _, _, .hs o lo len A cap m hm' hc h, _ => .hs o lo len A cap m (by rw [hm]; exact hm') hc h
  | _, _, .sub o j len A cap m hm' hc h, _ => .sub o j len A cap m (by rw [hm]; exact hm') hc h
  | _, _, .subp o j i b m hm' hb, _ => .subp o j i b m (by rw [hm]; exact hm') hb
  | _, _, .fn f caps vs h, hf => .fn f caps vs (flatL_rep hm h (by simpa [AV.flat] using hf))
  | _, _, .agg cs vs h, hf => .agg cs vs (flatL_rep hm h (by simpa [AV.flat] using hf))
  | _, _, .tup cs vs h, hf => .tup cs vs (flatL_rep hm h (by simpa [AV.flat] using hf))
  | _, _, .un, _ => .un
  | _, _, .top v, _ => .top v
theorem flatL_rep {c c2 : Cx} {w : World} (hm : c2.μ = c.μ) : ∀ {aS : List AV} {vs : List Value}, RepAVs c w aS vs → AV.flatL aS = true → RepAVs c2 w aS vs
  | _, _, .nil, _ => .nil
  | _, _, .cons a v aS vs h hs, hf => by
    simp only [AV.flatL, Bool.and_eq_true] at hf
    exact .cons a v aS vs (flat_rep hm h hf.1) (flatL_rep hm hs hf.2)
end
theorem RepD.flat {S S' : Nat → Prop} {w : World} {d : D} {v : Value} (h : RepD S w d v) (hf : d.flat = true) : RepD S' w d v := by
  cases h <;> first | (simp [D.flat] at hf; done) | (constructor; done) | (constructor; assumption)
theorem flat_obj {c c2 : Cx} {w : World} (hm : c2.μ = c.μ) {m : Meta} {x : Obj} (h : RepObj c w m x) (hf : x.flat = true) : RepObj c2 w m x := by
  cases x with
  | box cs =>
    obtain ⟨b, vs, el, h1, h2, h3⟩ := h
    exact ⟨b, vs, el, h1, h2, flatL_rep hm h3 hf⟩
  | frz sz xs => simp [Obj.flat] at hf
  | dead => trivial
  | row sz k c0 xs =>
    obtain ⟨h1, h2, h3, h4, h5, h6, h7⟩ := h
    refine ⟨h1, h2, h3, h4, h5, h6, fun b hb => ?_⟩
    obtain ⟨vs, e, g1, g2, g3⟩ := h7 b hb
    refine ⟨vs, e, g1, g2, fun j el i d hj hi => ?_⟩
    obtain ⟨v, hv, hr⟩ := g3 j el i d hj hi
    refine ⟨v, hv, ?_⟩
    simp only [Obj.flat, Bool.or_eq_true] at hf
    have hmem := List.mem_of_getElem? hj
    rcases hf with hf | hf
    · simp only [rowFlat, Bool.and_eq_true, Nat.ble_eq, List.all_eq_true] at hf
      obtain ⟨hk, hf⟩ := hf
      obtain ⟨f1, f2⟩ := hf el hmem
      have hjk : j < k := Nat.lt_of_lt_of_le (List.getElem?_eq_some_iff.1 hj).1 hk
      by_cases hc : i = c0
      · subst hc
        rw [if_pos ⟨hjk, rfl⟩] at hr ⊢
        rw [hi] at f2
        obtain ⟨ys, hd, hn⟩ := hr
        subst hd
        simp only [D.flatN, List.all_eq_true] at f2
        refine ⟨ys, rfl, hn.imp id ?_⟩
        rintro ⟨b', cap, vs', e', q1, q2, q3, q4, q5, q6⟩
        refine ⟨b', cap, vs', e', q1, q2, q3, q4, q5, fun i el' hi' => ?_⟩
        obtain ⟨d', u, p1, p2, p3⟩ := q6 i el' hi'
        subst p1
        exact ⟨d', u, rfl, p2, p3.flat (f2 [d'] (List.mem_of_getElem? hi') d' (by simp))⟩
      · rw [if_neg (fun h => hc h.2)] at hr ⊢
        refine hr.flat (f1 d ?_)
        exact List.mem_of_getElem? (i := i) (by rw [List.getElem?_set_ne (Ne.symm hc)]; exact hi)
    · simp only [List.all_eq_true] at hf
      have hd := hf el hmem d (List.mem_of_getElem? hi)
      split
      · rename_i hc
        rw [if_pos hc] at hr
        obtain ⟨ys, hd', _⟩ := hr
        subst hd'
        simp [D.flat] at hd
      · rename_i hc
        rw [if_neg hc] at hr
        exact hr.flat hd
theorem Aft.shOut {w w' : World} {c c1 : Cx} {n : Nat} {r : AV} {os os1 : List Obj} {v : Value} (h0 : Store w c os w) (h : Aft w c.shIn n r os1 v w' c1) (hr : r.flat = true) (hf : ∀ q, (os1.getD q .dead).flat = true) :
    Aft w c n r os1 v w' { c1 with imm := fun b => c1.imm b ∧ (c.imm b ∨ ¬ c.fix b), oth := c.oth } := by
  have hfix : c1.fix = c.fix := h.fix
  have hoth : ∀ b, c1.oth b ↔ c.oth b ∧ ¬ c.fix b := fun b => by rw [h.oth]; exact Iff.rfl
  exact
  { st :=
    { obj := fun o x hx hn => let ⟨m, g1, g2⟩ := h.st.obj o x hx hn; ⟨m, g1, flat_obj (by rfl) g2 (by rw [← hx]; exact hf o)⟩
      uniq := h.st.uniq
      lt := fun o l b ho => by
        obtain ⟨g1, g2, g3, g4⟩ := h.st.lt o l b ho
        exact ⟨g1, fun hb => g2 hb.1, g3, fun hb => g4 ((hoth b).2 ⟨hb, fun hx => g3 (by rw [hfix]; exact hx)⟩)⟩
      immlt := fun b hb => h.st.immlt b hb.1
      fixlt := h.st.fixlt
      othlt := fun b hb => Nat.lt_of_lt_of_le (h0.othlt b hb) h.st.grow
      sep := fun b hb ho => hb.2.elim (fun hi => h0.sep b hi ho) (fun hn => h.st.sep b hb.1 ((hoth b).2 ⟨ho, hn⟩))
      frame := h.st.frame
      grow := h.st.grow
      same := h.st.same }
    fix := h.fix
    oth := rfl
    imm := fun b hb => ⟨h.imm b (.inl hb), .inl hb⟩
    μ := h.μ
    dom := h.dom
    old := h.old
    kf := h.kf
    ki := h.ki.sub fun b hb => .inl hb
    ko := fun b hb => by
      by_cases hx : c.fix b
      · exact h.kf b hx
      · exact h.ko b ⟨hb, hx⟩
    len := h.len
    val := flat_rep (by rfl) h.val hr
    nbr := h.nbr
    nbo := h.nbo }
end Go.Gn

namespace Go.Gn
open Go
def nilMeta (sz : Nat) : Meta := ⟨none, sz, 0, 0, fun _ => none⟩
def Cx.nil (c : Cx) (n sz : Nat) : Cx := { c with μ := fun p => if p = n then some (nilMeta sz) else c.μ p }
theorem getD_push (os : List Obj) (x : Obj) (o : Nat) : (os ++ [x]).getD o .dead = if o = os.length then x else os.getD o .dead := by
 simp only [List.getD_eq_getElem?_getD]
 by_cases h : o = os.length
 ·subst h
  rw [if_pos rfl, List.getElem?_append_right (Nat.le_refl _), Nat.sub_self]
  rfl
 ·rw [if_neg h]
  by_cases h2 : o < os.length
  ·rw [List.getElem?_append_left h2]
  ·rw [List.getElem?_eq_none (show os.length ≤ o by omega), List.getElem?_eq_none (show (os ++ [x]).length ≤ o by simp; omega)]
theorem nil_step {w0 w : World} {c : Cx} {os : List Obj} (h : Store w0 c os w) (hdom : ∀ q, c.μ q ≠ none → q < os.length) (sz c0 : Nat) : Store w0 (c.nil os.length sz) (os ++ [.row sz 0 c0 []]) w ∧ Ext c w (c.nil os.length sz) w := by
 have key : ∀ o l b, Owns (c.nil os.length sz).μ (os ++ [.row sz 0 c0 []]) o l b → Owns c.μ os o l b := by
  rintro o l b ⟨m, hm, ho⟩
  rw [getD_push] at ho
  by_cases he : o = os.length
  ·simp only [Cx.nil, if_pos he] at hm
   cases hm
   rw [if_pos he] at ho
   cases l with
   | none => exact absurd (show (none : Option Nat) = some b from ho) (by simp)
   | some j => exact absurd ho.1 (by omega)
  ·simp only [Cx.nil, if_neg he] at hm
   rw [if_neg he] at ho
   exact ⟨m, hm, ho⟩
 refine h.step (fun _ => False) ⟨rfl, rfl⟩ (fun _ hb => hb) (fun _ hb => .inl hb) (fun o m hm => ?_) (Nat.le_refl _) ⟨rfl, rfl, rfl⟩ (fun _ _ _ => rfl) (fun b hb => hb.elim) (fun ext o x hx hxd => ?_)
  (fun o l o' l' b h1 h2 => h.uniq _ _ _ _ _ (key _ _ _ h1) (key _ _ _ h2)) (fun o l b h1 => h.lt _ _ _ (key _ _ _ h1)) h.immlt h.fixlt'
 ·have : o ≠ os.length := fun e => by
   have := hdom o (by rw [hm]; simp)
   omega
  exact ⟨m, by simp only [Cx.nil, if_neg this]; exact hm, m.le_refl⟩
 ·rw [getD_push] at hx
  by_cases he : o = os.length
  ·rw [if_pos he] at hx
   subst hx
   left
   refine ⟨nilMeta sz, by simp only [Cx.nil, if_pos he], ?_⟩
   show RepRow c.imm w (nilMeta sz) sz 0 c0 []
   refine ⟨rfl, rfl, Nat.le_refl _, ⟨Nat.le_refl _, fun _ _ _ => rfl⟩, fun _ => rfl, fun el hel => (by cases hel), fun b hb => ?_⟩
   exact absurd (show (none : Option Nat) = some b from hb) (by simp)
  ·rw [if_neg he] at hx
   exact .inr ⟨hx, by simp only [Cx.nil, if_neg he], fun _ _ _ hf => hf⟩
theorem nilFix_ok {w0 w : World} : ∀ (l : List (Nat × Nat × Nat)) {c : Cx} {os : List Obj} {cs : List AV} {vs : List Value}, Store w0 c os w → (∀ q, c.μ q ≠ none → q < os.length) → RepAVs c w cs vs →
  ∃ c', Store w0 c' (nilFix l cs os).2 w ∧ (∀ q, c'.μ q ≠ none → q < (nilFix l cs os).2.length) ∧ Ext c w c' w ∧ (∀ q, q < os.length → c'.μ q = c.μ q) ∧ os.length ≤ (nilFix l cs os).2.length ∧ RepAVs c' w (nilFix l cs os).1 vs
 | [], c, os, cs, vs, h, hd, hr => ⟨c, h, hd, Ext.refl _ _, fun _ _ => rfl, Nat.le_refl _, hr⟩
 | (p, sz, c0) :: l, c, os, cs, vs, h, hd, hr => by
  simp only [nilFix]
  split
  ·rename_i hp
   obtain ⟨s1, e1⟩ := nil_step h hd sz c0
   have hd1 : ∀ q, (c.nil os.length sz).μ q ≠ none → q < (os ++ [Obj.row sz 0 c0 []]).length := fun q hq => by
    simp only [List.length_append, List.length_cons, List.length_nil]
    by_cases he : q = os.length
    ·omega
    ·simp only [Cx.nil, if_neg he] at hq
     have := hd q hq
     omega
   have hr1 : RepAVs (c.nil os.length sz) w (cs.set p (.hw os.length)) vs := by
    have hr2 := hr.mono e1
    refine RepAVs.of_get (by rw [List.length_set]; exact hr2.length) fun i a ha => ?_
    by_cases hi : i = p
    ·subst hi
     have hl : i < cs.length := (List.getElem?_eq_some_iff.1 hp).1
     rw [List.getElem?_set_self hl] at ha
     cases ha
     obtain ⟨v, hv, hrv⟩ := hr2.get i _ hp
     cases hrv
     exact ⟨_, hv, .hw os.length (nilMeta sz) (by simp only [Cx.nil, if_true])⟩
    ·rw [List.getElem?_set_ne (Ne.symm hi)] at ha
     exact hr2.get i a ha
   obtain ⟨c', k1, k2, k3, k4, k5, k6⟩ := nilFix_ok l s1 hd1 hr1
   refine ⟨c', k1, k2, e1.trans k3, fun q hq => ?_, ?_, k6⟩
   ·rw [k4 q (by simp; omega)]
    simp only [Cx.nil, if_neg (show ¬ q = os.length by omega)]
   ·simp only [List.length_append, List.length_cons, List.length_nil] at k5
    omega
  ·exact nilFix_ok l h hd hr
theorem nilV_ok {w0 w wi : World} {l : List (Nat × Nat × Nat)} {n : Nat} {ci c : Cx} {os : List Obj} {v : AV} {u : Value} (h : Store w0 c os w) (hd : ∀ q, c.μ q ≠ none → q < os.length) (hr : RepAV c w v u) (hx : ExtM n ci wi c w) (hn : n ≤ os.length) :
  ∃ c', Store w0 c' (nilV l v os).2 w ∧ (∀ q, c'.μ q ≠ none → q < (nilV l v os).2.length) ∧ ExtM n ci wi c' w ∧ n ≤ (nilV l v os).2.length ∧ RepAV c' w (nilV l v os).1 u := by
 unfold nilV
 split
 ·exact ⟨c, h, hd, hx, hn, hr⟩
 ·rename_i x l cs
  cases hr with
  | agg _ vs hr =>
   obtain ⟨c', k1, k2, k3, k4, k5, k6⟩ := nilFix_ok (x :: l) h hd hr
   exact ⟨c', k1, k2, hx.trans (ExtM.of_ext k3 fun o ho hm => by rw [k4 o (by omega)]; exact hm), Nat.le_trans hn k5, .agg _ _ k6⟩
 ·exact ⟨c, h, hd, hx, hn, hr⟩
end Go.Gn

namespace Go.Gn
open Go
def retAV : List AV → AV
  | [v] => v
  | vs => .tup vs
def retOrd (m : Nat) (v : AV) (os : List Obj) : List Nat := reach os 400 (((List.range m).flatMap fun o => (os.getD o .dead).ids) ++ v.ids) (List.range m)
def retOs (m : Nat) (demR : Bool) (v : AV) (os : List Obj) : List Obj := if demR then (pickOs (retOrd m v os) os).map Obj.demote else pickOs (retOrd m v os) os
def retCk (cf : CF) (v : AV) (os : List Obj) : Bool := (v.noBr && os.all Obj.noBr) && (!cf.shIn || (!cf.demR && v.flat && os.all Obj.flat))
def fin (cf : CF) (m : Nat) (st : St) : Option (AV × List Obj) := match resOf st.ts st.os cf.res with
  | none => none
  | some vs =>
    if cf.inl then (if cf.shIn then none else some (retAV vs, st.os)) else
    if retCk cf ((nilV cf.nilr (retAV vs) st.os).1.ren (posOf (retOrd m (nilV cf.nilr (retAV vs) st.os).1 (nilV cf.nilr (retAV vs) st.os).2))) (retOs m cf.demR (nilV cf.nilr (retAV vs) st.os).1 (nilV cf.nilr (retAV vs) st.os).2) then some ((nilV cf.nilr (retAV vs) st.os).1.ren (posOf (retOrd m (nilV cf.nilr (retAV vs) st.os).1 (nilV cf.nilr (retAV vs) st.os).2)), retOs m cf.demR (nilV cf.nilr (retAV vs) st.os).1 (nilV cf.nilr (retAV vs) st.os).2) else none
theorem evCall_succ (G : Nat → Option CF) (n f : Nat) (args : List AV) (os : List Obj) : evCall G (n + 1) f args os = match G f with
    | none => none
    | some cf => match cf.ext with
      | some g => if cf.inl then none else g args os
      | none =>
      if cf.nt < args.length then none else
      match evC (evCall G n) G cf os.length n cf.body ⟨start 0 (if cf.shIn then AV.toShL args else args) cf.nt, os⟩ with
      | none => none
      | some (.ext _, _) => none
      | some (_, st) => fin cf os.length st := rfl
def RowOK (P : Program) (f : Nat) (cf : CF) : Prop := match cf.ext with
  | none => FnOK P f cf
  | some g => (∃ fn, P.funcs[f]? = some fn ∧ fn.name ≠ "runtime.NumGoroutine" ∧ fn.body ≠ none) ∧ (cf.inl = false → Good P (fun _ => g) f false)
theorem FnOK.there {P : Program} {f : Nat} {cf : CF} (h : FnOK P f cf) : ∃ fn, P.funcs[f]? = some fn ∧ fn.name ≠ "runtime.NumGoroutine" ∧ fn.body ≠ none := by
  obtain ⟨fn, code, h1, h2, h3, _⟩ := h
  exact ⟨fn, h1, h2, by rw [h3]; simp⟩
theorem toShL_length : ∀ (l : List AV), (AV.toShL l).length = l.length
  | [] => rfl
  | v :: l => by simp [AV.toShL, toShL_length l]
theorem tbl_sound {P : Program} {G : Nat → Option CF} (hok : ∀ f cf, G f = some cf → RowOK P f cf) : ∀ n, Tbl P G (evCall G n)
  | 0 => fun f cf hG => by
    have hr := hok f cf hG
    refine ⟨?_, ?_⟩
    · unfold RowOK at hr
      split at hr
      · exact hr.there
      · exact hr.1
    · unfold Good
      split
      · intro args os r os' h; cases h
      · intro args os r os' h; cases h
  | n + 1 => fun f cf hG => by
    have hr := hok f cf hG
    unfold RowOK at hr
    split at hr
    · rename_i hext
      refine ⟨hr.there, ?_⟩
      have ih := tbl_sound hok n
      have core : ∀ {args os r os'}, evCall G (n + 1) f args os = some (r, os') → ∃ x st' vs, args.length ≤ cf.nt ∧ evC (evCall G n) G cf os.length n cf.body ⟨start 0 (if cf.shIn then AV.toShL args else args) cf.nt, os⟩ = some (x, st') ∧ (∀ id, x ≠ .ext id) ∧ resOf st'.ts st'.os cf.res = some vs ∧
          (if cf.inl then cf.shIn = false ∧ r = retAV vs ∧ os' = st'.os else
            ∃ v1 os1, (v1, os1) = nilV cf.nilr (retAV vs) st'.os ∧ r = v1.ren (posOf (retOrd os.length v1 os1)) ∧ os' = retOs os.length cf.demR v1 os1 ∧ retCk cf r os' = true) := by
        intro args os r os' h
        rw [evCall_succ, hG] at h
        simp only [hext] at h
        split at h
        · cases h
        · rename_i hnt
          split at h
          · cases h
          · cases h
          · rename_i x st' hne hev
            unfold fin at h
            split at h
            · cases h
            · rename_i vs hvs
              refine ⟨x, st', vs, by omega, hev, fun id he => by subst he; exact hne _ rfl, hvs, ?_⟩
              split at h
              · rename_i hi
                split at h
                · cases h
                · rename_i hsh
                  cases h
                  rw [if_pos hi]
                  exact ⟨by simpa using hsh, rfl, rfl⟩
              · rename_i hi
                rw [if_neg hi]
                split at h
                · rename_i hb
                  cases h
                  exact ⟨_, _, rfl, rfl, rfl, hb⟩
                · cases h
      unfold Good
      split
      · rename_i hinl
        intro args os r os' h w0 c w vals hst hdom ha
        obtain ⟨x, st', vs, h1, h2, h3, h4, h5⟩ := core h
        rw [if_pos hinl] at h5
        obtain ⟨hsh, rfl, rfl⟩ := h5
        rw [hsh] at h2
        refine fn_core ih hr h1 h2 h3 h4 hst hdom ha (fun v' w' c' g1 g2 g3 g4 g5 => ⟨c', g1, ⟨g3.fix, g3.oth, g3.imm, fun o m hm => g3.μ o (hdom o (by rw [hm]; simp)) m hm, g3.kf, g3.ki, g3.ko⟩, g5, fun q hq => ?_⟩)
        rcases Nat.lt_or_ge q os.length with hl | hl
        · left; intro hn; exact hq (g3.old q hl hn)
        · exact .inr ⟨hl, g2 q hq⟩
      · rename_i hinl
        intro args os r os' h c w vals hst hdom ha
        obtain ⟨x, st', vs, h1, h2, h3, h4, h5⟩ := core h
        rw [if_neg hinl] at h5
        obtain ⟨v1, os1, hv1, hr5, hos5, hck⟩ := h5
        have run : ∀ (c0 : Cx) (args' : List AV), args'.length = args.length → evC (evCall G n) G cf os.length n cf.body ⟨start 0 args' cf.nt, os⟩ = some (x, st') → Store w c0 os w → c0.μ = c.μ → RepAVs c0 w args' vals →
            Calls P f vals.toArray w (retB fun v w' => ∃ c1, Aft w c0 os.length r os' v w' c1) := by
          intro c0 args' hlen' h2 hst hμ ha
          simp only [retCk, Bool.and_eq_true] at hck
          obtain ⟨⟨e6, e7⟩, _⟩ := hck
          generalize hord : retOrd os.length v1 os1 = ord at hr5 hos5
          have hosx : os' = (if cf.demR then (pickOs ord os1).map Obj.demote else pickOs ord os1) := by rw [hos5]; simp only [retOs, hord]
          clear hos5
          have e1 : ord.Nodup := by rw [← hord]; exact reach_nodup _ _ _ _ List.nodup_range
          obtain ⟨l, hl⟩ := reach_prefix os1 400 (((List.range os.length).flatMap fun o => (os1.getD o .dead).ids) ++ v1.ids) (List.range os.length)
          have hl : ord = List.range os.length ++ l := by rw [← hord]; exact hl
          have e2 : ∀ i, i < os.length → ord[i]? = some i := fun i hi => by
            rw [hl, List.getElem?_append_left (by simpa using hi)]
            simp [hi]
          have e3 : os.length ≤ ord.length := by rw [hl]; simp
          refine fn_core ih hr (by omega) h2 h3 h4 hst (fun q hq => hdom q (by rw [← hμ]; exact hq)) ha (fun v' w' cq q1 q2 q3 q4 q5 => ?_)
          obtain ⟨c', g1, g2, g3, g4, g5⟩ := nilV_ok (l := cf.nilr) q1 q2 (show RepAV cq w' (retAV vs) v' from q5) q3 q4
          rw [← hv1] at g1 g2 g4 g5
          simp only at g1 g2 g4 g5
          have nbo : ∀ q, ((pickOs ord os1).getD q .dead).noBr = true := by
            intro q
            have hall : ∀ l : List Obj, l.all Obj.noBr = true → ∀ q, (l.getD q .dead).noBr = true := by
              intro l hl q
              rw [List.getD_eq_getElem?_getD]
              cases hq : l[q]? with
              | none => rfl
              | some y => exact (List.all_eq_true.1 hl) y (List.mem_of_getElem? hq)
            rw [hosx] at e7
            cases hd : cf.demR with
            | false => rw [hd] at e7; exact hall _ e7 q
            | true =>
              rw [hd] at e7
              have := hall _ e7 q
              rw [if_pos rfl, getD_map_demote] at this
              generalize (pickOs ord os1).getD q .dead = y at this
              cases y <;> first | exact this | rfl
          rw [hr5] at e6 ⊢
          have aft : Aft w c0 os.length (v1.ren (posOf ord)) (pickOs ord os1) v' w' (c'.pick ord) :=
            { st := g1.pick ord e1, fix := g3.fix, oth := g3.oth, imm := g3.imm
              μ := fun o ho m hm => by
                obtain ⟨m', k1, k2⟩ := g3.μ o ho m hm
                exact ⟨m', by simp [Cx.pick, e2 o ho, k1], k2⟩
              dom := fun q hq => by
                simp only [pickOs, List.length_map]
                rcases Nat.lt_or_ge q ord.length with hl | hl
                · exact hl
                · exfalso; apply hq; simp [Cx.pick, List.getElem?_eq_none hl]
              old := fun q hq hn => by simp [Cx.pick, e2 q hq, g3.old q hq hn]
              kf := g3.kf, ki := g3.ki, ko := g3.ko, len := by simpa [pickOs] using e3
              val := RepAV.ren (rn_pick c' ord) g5 (fun h => by cases h), nbr := e6, nbo := nbo }
          rw [hosx]
          cases hd : cf.demR with
          | false => exact ⟨_, aft⟩
          | true => exact aft.demote
        cases hsh : cf.shIn with
        | false =>
          rw [hsh] at h2
          exact run c args rfl h2 hst rfl ha
        | true =>
          rw [hsh] at h2
          simp only [if_true] at h2
          refine Calls.mono (run c.shIn _ (toShL_length args) h2 hst.shIn rfl (toShL_rep ha)) (fun e w' he => ?_)
          cases e with
          | returned v' =>
            obtain ⟨c1, haft⟩ := he
            simp only [retCk, hsh, Bool.and_eq_true, Bool.not_true, Bool.false_or] at hck
            obtain ⟨_, ⟨_, k1⟩, k2⟩ := hck
            refine ⟨_, haft.shOut hst k1 (fun q => ?_)⟩
            rw [List.getD_eq_getElem?_getD]
            cases hq : os'[q]? with
            | none => rfl
            | some y => exact (List.all_eq_true.1 k2) y (List.mem_of_getElem? hq)
          | panicked ch => exact he
          | outgrown => exact he
    · rename_i g hext
      refine ⟨hr.1, ?_⟩
      have hg : evCall G (n + 1) f = fun args os => if cf.inl then none else g args os := by
        funext args os
        rw [evCall_succ, hG]
        simp only [hext]
      cases hi : cf.inl with
      | false =>
        intro args os r os' h
        rw [hg] at h
        simp only [hi] at h
        exact hr.2 hi args os r os' h
      | true =>
        intro args os r os' h
        rw [hg] at h
        simp only [hi, if_true] at h
        cases h
end Go.Gn

namespace Go.Gn
open Go
abbrev LoopF := (St → St) → (St → Option (Xt × St)) → St → Option (Xt × St)
noncomputable def evCW (W : CallF) (L : LoopF) (G : Nat → Option CF) (me : CF) (m : Nat) : C → St → Option (Xt × St)
 | .skip, st => some (.nrm, st)
 | .reg false _ _ ops, st => match evOps W G me ops st with
  | none => none
  | some st' => some (.nrm, st')
 | .reg true prs frs ops, st => match evDraw W G me prs frs ops st with
  | none => none
  | some st' => some (.nrm, st')
 | .seq a b, st => match evCW W L G me m a st with
  | none => none
  | some (.nrm, st') => evCW W L G me m b st'
  | some r => some r
 | .cond c a b, st => match getX st.ts c with
  | .bool true => evCW W L G me m a st
  | .bool false => evCW W L G me m b st
  | _ => none
 | .blk id c, st => match evCW W L G me m c st with
  | some (.ext i, st') => if i = id then some (.nrm, st') else some (.ext i, st')
  | r => r
 | .loop c, st => L (norm m me.live) (exitN m me.out (evCW W L G me m c)) (norm m me.live st)
 | .exit id, st => some (.ext id, st)
 | .ret, st => some (.ret, st)
noncomputable def bodyW (W : CallF) (L : LoopF) (G : Nat → Option CF) (f : Nat) (args : List AV) (os : List Obj) : Option (AV × List Obj) := match G f with
 | none => none
 | some cf => match cf.ext with
  | some g => if cf.inl then none else g args os
  | none =>
  if cf.nt < args.length then none else
  match evCW W L G cf os.length cf.body ⟨start 0 (if cf.shIn then AV.toShL args else args) cf.nt, os⟩ with
  | none => none
  | some (.ext _, _) => none
  | some (_, st) => fin cf os.length st
structure IsW (G : Nat → Option CF) (W : CallF) (L : LoopF) : Prop where
 call : ∀ f args os, W f args os = bodyW W L G f args os
 loop : ∀ head b st, L head b st = match b st with
  | none => none
  | some (.nrm, st') => L head b (head st')
  | some r => some r
 sound : ∀ f args os r, W f args os = some r → ∃ n, evCall G n f args os = some r
abbrev Le (c c' : CallF) : Prop := ∀ f a o r, c f a o = some r → c' f a o = some r
theorem ck_le {c c' : CallF} (hc : Le c c') : Le (ckCall c) (ckCall c') := by
 intro f a o r h
 simp only [ckCall] at h ⊢
 split at h
 ·rename_i r1 os1 h1
  rw [hc _ _ _ _ h1]
  exact h
 ·cases h
theorem callOf_le {c c' : CallF} (hc : Le c c') {cf : CF} : Le (callOf cf c) (callOf cf c') := by
 unfold callOf
 cases cf.inl with
 | true => exact ck_le hc
 | false => exact hc
theorem callOf_cont {W : CallF} {cn : Nat → CallF} (hW : ∀ f a o r, W f a o = some r → ∃ N, ∀ n, N ≤ n → cn n f a o = some r) {cf : CF} : ∀ f a o r, callOf cf W f a o = some r → ∃ N, ∀ n, N ≤ n → callOf cf (cn n) f a o = some r := by
 unfold callOf
 cases cf.inl with
 | false => exact hW
 | true =>
  intro f a o r h
  simp only [ckCall] at h ⊢
  split at h
  ·rename_i r1 os1 h1
   obtain ⟨N, hN⟩ := hW _ _ _ _ h1
   exact ⟨N, fun n hn => by rw [hN n hn]; exact h⟩
  ·cases h
section mono
variable {c c' : CallF} (hc : Le c c') {G : Nat → Option CF} {me : CF}
include hc
theorem localCall_mono {cf : CF} {d : Bool} {f nb : Nat} {args : List AV} {os : List Obj} {r : AV × List Obj} (h : localCall c cf d f args nb os = some r) : localCall c' cf d f args nb os = some r := by
 simp only [localCall] at h ⊢
 split at h
 ·rename_i h1
  rw [if_pos h1]
  split at h
  ·cases h
  ·rename_i aS ha
   try simp only
   split at h
   ·cases h
   ·rename_i v os' hcall
    simp only [hc _ _ _ _ hcall]
    exact h
 ·cases h
theorem evI_mono {ins : I} {ts : Ts} {nb : Nat} {os : List Obj} {r : AV × List Obj} (h : evI c G me ins ts nb os = some r) : evI c' G me ins ts nb os = some r := by
 cases ins
 case call f args =>
  simp only [evI, forceL_eq] at h ⊢
  split at h
  ·cases h
  ·try simp only
   split at h
   ·rename_i hi; rw [if_pos hi]; exact hc _ _ _ _ h
   ·rename_i hi; rw [if_neg hi]; exact localCall_mono (callOf_le hc) h
 case callv x args =>
  simp only [evI, forceL_eq] at h ⊢
  split at h
  ·split at h
   ·cases h
   ·try simp only
    split at h
    ·rename_i hi; rw [if_pos hi]; exact hc _ _ _ _ h
    ·rename_i hi; rw [if_neg hi]; exact localCall_mono (callOf_le hc) h
  ·cases h
 all_goals exact h
theorem evO_mono {o : O} {nb : Nat} {st st' : St} (h : evO c G me o nb st = some st') : evO c' G me o nb st = some st' := by
 obtain ⟨h1, v, h2, h3⟩ := evO_inv h
 obtain ⟨ts, os⟩ := st
 obtain ⟨ts', os'⟩ := st'
 simp only at h1 h2
 subst h2
 exact evO_of h1 (h3.imp id fun ⟨g1, g2⟩ => ⟨g1, evI_mono hc g2⟩)
theorem evOps_mono : ∀ {l : List O} {st st' : St}, evOps c G me l st = some st' → evOps c' G me l st = some st'
 | [], st, st', h => h
 | o :: l, st, st', h => by
  simp only [evOps] at h ⊢
  split at h
  ·cases h
  ·rename_i s1 h1
   rw [evO_mono hc h1]
   exact evOps_mono h
theorem evOpsT_mono {frs : List Nat} {L : Nat} : ∀ {l : List O} {i : Nat} {st : St} {r : St × List St}, evOpsT c G me frs L i l st = some r → evOpsT c' G me frs L i l st = some r
 | [], i, st, st', h => h
 | o :: l, i, st, st', h => by
  simp only [evOpsT] at h ⊢
  split at h
  ·cases h
  ·rename_i s1 h1
   rw [evO_mono hc h1]
   try simp only
   split at h
   ·cases h
   ·rename_i sf tr h2
    rw [evOpsT_mono h2]
    exact h
theorem evDraw_mono {prs : List (Nat × Nat)} {frs : List Nat} {l : List O} {st st' : St} (h : evDraw c G me prs frs l st = some st') : evDraw c' G me prs frs l st = some st' := by
 unfold evDraw at h ⊢
 split at h
 ·cases h
 ·rename_i sf tr h2
  rw [evOpsT_mono hc h2]
  exact h
end mono
theorem loopN_mono {head : St → St} {b b' : St → Option (Xt × St)} (hb : ∀ s r, b s = some r → b' s = some r) : ∀ {n n' : Nat} {st : St} {r : Xt × St}, n ≤ n' → loopN head n b st = some r → loopN head n' b' st = some r
 | 0, _, st, r, _, h => by cases h
 | n + 1, 0, st, r, hn, h => by omega
 | n + 1, n' + 1, st, r, hn, h => by
  simp only [loopN] at h ⊢
  split at h
  ·cases h
  ·rename_i st' h1
   rw [hb _ _ h1]
   exact loopN_mono hb (by omega) h
  ·rename_i r' hne h1
   rw [hb _ _ h1]
   simp only [Option.some.injEq] at h
   subst h
   obtain ⟨x, s⟩ := r'
   cases x with
   | nrm => exact absurd rfl (hne s)
   | ext i => rfl
   | ret => rfl
theorem exitN_mono {m : Nat} {out : List Nat} {b b' : St → Option (Xt × St)} (hb : ∀ s r, b s = some r → b' s = some r) : ∀ s r, exitN m out b s = some r → exitN m out b' s = some r := by
 intro s r h
 unfold exitN at h ⊢
 cases h1 : b s with
 | none => rw [h1] at h; cases h
 | some p => rw [h1] at h; rw [hb _ _ h1]; exact h
theorem evC_mono {c c' : CallF} (hc : Le c c') {G : Nat → Option CF} {me : CF} {m : Nat} {n n' : Nat} (hn : n ≤ n') : ∀ (cc : C) {st : St} {r : Xt × St}, evC c G me m n cc st = some r → evC c' G me m n' cc st = some r
 | .skip, st, r, h => h
 | .reg false _ _ ops, st, r, h => by
  simp only [evC] at h ⊢
  split at h
  ·cases h
  ·rename_i s h1; rw [evOps_mono hc h1]; exact h
 | .reg true _ _ ops, st, r, h => by
  simp only [evC] at h ⊢
  split at h
  ·cases h
  ·rename_i s h1; rw [evDraw_mono hc h1]; exact h
 | .seq a b, st, r, h => by
  simp only [evC] at h ⊢
  split at h
  ·cases h
  ·rename_i s h1; rw [evC_mono hc hn a h1]; exact evC_mono hc hn b h
  ·rename_i r' hne h1
   rw [evC_mono hc hn a h1]
   simp only [Option.some.injEq] at h
   subst h
   obtain ⟨x, s⟩ := r'
   cases x with
   | nrm => exact absurd rfl (hne s)
   | ext i => rfl
   | ret => rfl
 | .cond x a b, st, r, h => by
  simp only [evC] at h ⊢
  split at h
  ·exact evC_mono hc hn a h
  ·exact evC_mono hc hn b h
  ·cases h
 | .blk id a, st, r, h => by
  simp only [evC] at h ⊢
  cases h1 : evC c G me m n a st with
  | none => rw [h1] at h; cases h
  | some r' => rw [h1] at h; rw [evC_mono hc hn a h1]; exact h
 | .loop a, st, r, h => by
  simp only [evC] at h ⊢
  exact loopN_mono (exitN_mono fun s r h => evC_mono hc hn a h) hn h
 | .exit _, st, r, h => h
 | .ret, st, r, h => h
theorem evCall_mono1 {G : Nat → Option CF} : ∀ n, Le (evCall G n) (evCall G (n + 1))
 | 0 => fun f a o r h => by cases h
 | n + 1 => fun f a o r h => by
  rw [evCall_succ] at h ⊢
  split at h
  ·cases h
  ·rename_i cf hG
   try simp only
   split at h
   ·rename_i g hg; simp only [hg] at *; exact h
   ·rename_i hg
    try simp only
    split at h
    ·cases h
    ·rename_i hnt
     rw [if_neg hnt]
     split at h
     ·cases h
     ·cases h
     ·rename_i x st' hne h1
      rw [evC_mono (evCall_mono1 n) (Nat.le_succ n) _ h1]
      cases x with
      | nrm => exact h
      | ret => exact h
      | ext i => exact absurd rfl (hne i)
theorem evCall_mono {G : Nat → Option CF} {n n' : Nat} (h : n ≤ n') : Le (evCall G n) (evCall G n') := by
 induction h with
 | refl => exact fun _ _ _ _ h => h
 | step _ ih => exact fun f a o r h => evCall_mono1 _ f a o r (ih f a o r h)
section cont
variable {W : CallF} {cn : Nat → CallF} (hW : ∀ f a o r, W f a o = some r → ∃ N, ∀ n, N ≤ n → cn n f a o = some r) {G : Nat → Option CF} {me : CF}
include hW
theorem localCall_cont {cf : CF} {d : Bool} {f nb : Nat} {args : List AV} {os : List Obj} {r : AV × List Obj} (h : localCall W cf d f args nb os = some r) : ∃ N, ∀ n, N ≤ n → localCall (cn n) cf d f args nb os = some r := by
 simp only [localCall] at h ⊢
 split at h
 ·rename_i h1
  split at h
  ·cases h
  ·rename_i aS ha
   split at h
   ·cases h
   ·rename_i v os' hcall
    obtain ⟨N, hN⟩ := hW _ _ _ _ hcall
    refine ⟨N, fun n hn => ?_⟩
    simp only [hN n hn]
    rw [if_pos h1]
    exact h
 ·cases h
theorem evI_cont {ins : I} {ts : Ts} {nb : Nat} {os : List Obj} {r : AV × List Obj} (h : evI W G me ins ts nb os = some r) : ∃ N, ∀ n, N ≤ n → evI (cn n) G me ins ts nb os = some r := by
 cases ins
 case call f args =>
  simp only [evI, forceL_eq] at h ⊢
  split at h
  ·cases h
  ·try simp only
   split at h
   ·rename_i hi
    obtain ⟨N, hN⟩ := hW _ _ _ _ h
    exact ⟨N, fun n hn => by rw [if_pos hi]; exact hN n hn⟩
   ·rename_i hi
    obtain ⟨N, hN⟩ := localCall_cont (cn := fun n => callOf _ (cn n)) (callOf_cont hW) h
    exact ⟨N, fun n hn => by rw [if_neg hi]; exact hN n hn⟩
 case callv x args =>
  simp only [evI, forceL_eq] at h ⊢
  split at h
  ·split at h
   ·cases h
   ·try simp only
    split at h
    ·rename_i hi
     obtain ⟨N, hN⟩ := hW _ _ _ _ h
     exact ⟨N, fun n hn => by rw [if_pos hi]; exact hN n hn⟩
    ·rename_i hi
     obtain ⟨N, hN⟩ := localCall_cont (cn := fun n => callOf _ (cn n)) (callOf_cont hW) h
     exact ⟨N, fun n hn => by rw [if_neg hi]; exact hN n hn⟩
  ·cases h
 all_goals exact ⟨0, fun _ _ => h⟩
theorem evO_cont {o : O} {nb : Nat} {st st' : St} (h : evO W G me o nb st = some st') : ∃ N, ∀ n, N ≤ n → evO (cn n) G me o nb st = some st' := by
 obtain ⟨h1, v, h2, h3⟩ := evO_inv h
 obtain ⟨ts, os⟩ := st
 obtain ⟨ts', os'⟩ := st'
 simp only at h1 h2
 subst h2
 rcases h3 with h3 | ⟨g1, g2⟩
 ·exact ⟨0, fun n _ => evO_of h1 (.inl h3)⟩
 ·obtain ⟨N, hN⟩ := evI_cont hW g2
  exact ⟨N, fun n hn => evO_of h1 (.inr ⟨g1, hN n hn⟩)⟩
theorem evOps_cont : ∀ {l : List O} {st st' : St}, evOps W G me l st = some st' → ∃ N, ∀ n, N ≤ n → evOps (cn n) G me l st = some st'
 | [], st, st', h => ⟨0, fun _ _ => h⟩
 | o :: l, st, st', h => by
  simp only [evOps] at h ⊢
  split at h
  ·cases h
  ·rename_i s1 h1
   obtain ⟨N1, hN1⟩ := evO_cont hW h1
   obtain ⟨N2, hN2⟩ := evOps_cont h
   exact ⟨max N1 N2, fun n hn => by rw [hN1 n (by omega)]; exact hN2 n (by omega)⟩
theorem evOpsT_cont {frs : List Nat} {L : Nat} : ∀ {l : List O} {i : Nat} {st : St} {r : St × List St}, evOpsT W G me frs L i l st = some r → ∃ N, ∀ n, N ≤ n → evOpsT (cn n) G me frs L i l st = some r
 | [], i, st, st', h => ⟨0, fun _ _ => h⟩
 | o :: l, i, st, st', h => by
  simp only [evOpsT] at h ⊢
  split at h
  ·cases h
  ·rename_i s1 h1
   split at h
   ·cases h
   ·rename_i sf tr h2
    obtain ⟨N1, hN1⟩ := evO_cont hW h1
    obtain ⟨N2, hN2⟩ := evOpsT_cont h2
    exact ⟨max N1 N2, fun n hn => by rw [hN1 n (by omega)]; simp only; rw [hN2 n (by omega)]; exact h⟩
theorem evDraw_cont {prs : List (Nat × Nat)} {frs : List Nat} {l : List O} {st st' : St} (h : evDraw W G me prs frs l st = some st') : ∃ N, ∀ n, N ≤ n → evDraw (cn n) G me prs frs l st = some st' := by
 unfold evDraw at h ⊢
 split at h
 ·cases h
 ·rename_i sf tr h2
  obtain ⟨N, hN⟩ := evOpsT_cont hW h2
  exact ⟨N, fun n hn => by rw [hN n hn]; exact h⟩
theorem evC_cont {L : LoopF} (hL : ∀ head b st r, L head b st = some r → ∃ n, loopN head n b st = some r) {m : Nat} : ∀ (cc : C) {st : St} {r : Xt × St}, evCW W L G me m cc st = some r → ∃ N, ∀ n, N ≤ n → evC (cn n) G me m n cc st = some r
 | .skip, st, r, h => ⟨0, fun _ _ => h⟩
 | .reg false _ _ ops, st, r, h => by
  simp only [evCW] at h
  split at h
  ·cases h
  ·rename_i s h1
   obtain ⟨N, hN⟩ := evOps_cont hW h1
   exact ⟨N, fun n hn => by simp only [evC]; rw [hN n hn]; exact h⟩
 | .reg true _ _ ops, st, r, h => by
  simp only [evCW] at h
  split at h
  ·cases h
  ·rename_i s h1
   obtain ⟨N, hN⟩ := evDraw_cont hW h1
   exact ⟨N, fun n hn => by simp only [evC]; rw [hN n hn]; exact h⟩
 | .seq a b, st, r, h => by
  simp only [evCW] at h
  split at h
  ·cases h
  ·rename_i s h1
   obtain ⟨N1, hN1⟩ := evC_cont hL a h1
   obtain ⟨N2, hN2⟩ := evC_cont hL b h
   exact ⟨max N1 N2, fun n hn => by simp only [evC]; rw [hN1 n (by omega)]; exact hN2 n (by omega)⟩
  ·rename_i r' hne h1
   obtain ⟨N1, hN1⟩ := evC_cont hL a h1
   refine ⟨N1, fun n hn => ?_⟩
   simp only [evC]
   rw [hN1 n hn]
   simp only [Option.some.injEq] at h
   subst h
   obtain ⟨x, s⟩ := r'
   cases x with
   | nrm => exact absurd rfl (hne s)
   | ext i => rfl
   | ret => rfl
 | .cond x a b, st, r, h => by
  simp only [evCW] at h
  split at h
  ·rename_i hx
   obtain ⟨N, hN⟩ := evC_cont hL a h
   exact ⟨N, fun n hn => by simp only [evC, hx]; exact hN n hn⟩
  ·rename_i hx
   obtain ⟨N, hN⟩ := evC_cont hL b h
   exact ⟨N, fun n hn => by simp only [evC, hx]; exact hN n hn⟩
  ·cases h
 | .blk id a, st, r, h => by
  simp only [evCW] at h
  cases h1 : evCW W L G me m a st with
  | none => rw [h1] at h; cases h
  | some r' =>
   rw [h1] at h
   obtain ⟨N, hN⟩ := evC_cont hL a h1
   exact ⟨N, fun n hn => by simp only [evC]; rw [hN n hn]; exact h⟩
 | .loop a, st, r, h => by
  simp only [evCW] at h
  obtain ⟨k, hk⟩ := hL _ _ _ _ h
  have ex : ∀ {st : St} {r : Xt × St}, exitN m me.out (evCW W L G me m a) st = some r → ∃ N, ∀ n, N ≤ n → exitN m me.out (evC (cn n) G me m n a) st = some r := by
   intro st r h
   unfold exitN at h
   cases h1 : evCW W L G me m a st with
   | none => rw [h1] at h; cases h
   | some p =>
    rw [h1] at h
    obtain ⟨N, hN⟩ := evC_cont hL a h1
    exact ⟨N, fun n hn => by unfold exitN; rw [hN n hn]; exact h⟩
  have key : ∀ (k : Nat) (st : St) (r : Xt × St), loopN (norm m me.live) k (exitN m me.out (evCW W L G me m a)) st = some r → ∃ N, ∀ n, N ≤ n → loopN (norm m me.live) k (exitN m me.out (evC (cn n) G me m n a)) st = some r := by
   intro k
   induction k with
   | zero => intro st r h; cases h
   | succ k ih =>
    intro st r h
    simp only [loopN] at h
    split at h
    ·cases h
    ·rename_i s h1
     obtain ⟨N1, hN1⟩ := ex h1
     obtain ⟨N2, hN2⟩ := ih _ _ h
     exact ⟨max N1 N2, fun n hn => by simp only [loopN]; rw [hN1 n (by omega)]; exact hN2 n (by omega)⟩
    ·rename_i r' hne h1
     obtain ⟨N1, hN1⟩ := ex h1
     refine ⟨N1, fun n hn => ?_⟩
     simp only [loopN]
     rw [hN1 n hn]
     simp only [Option.some.injEq] at h
     subst h
     obtain ⟨x, s⟩ := r'
     cases x with
     | nrm => exact absurd rfl (hne s)
     | ext i => rfl
     | ret => rfl
  obtain ⟨N, hN⟩ := key k _ _ hk
  exact ⟨max N k, fun n hn => by
   simp only [evC]
   exact loopN_mono (fun s r h => h) (Nat.le_trans (Nat.le_max_right N k) hn) (hN n (Nat.le_trans (Nat.le_max_left N k) hn))⟩
 | .exit _, st, r, h => ⟨0, fun _ _ => h⟩
 | .ret, st, r, h => ⟨0, fun _ _ => h⟩
end cont
theorem evC_up {c W : CallF} (hc : Le c W) {L : LoopF} {G : Nat → Option CF} {me : CF} {m n : Nat} (hL : ∀ head b st r, loopN head n b st = some r → L head b st = some r) : ∀ (cc : C) {st : St} {r : Xt × St}, evC c G me m n cc st = some r → evCW W L G me m cc st = some r
 | .skip, st, r, h => h
 | .reg false _ _ ops, st, r, h => by
  simp only [evC] at h
  simp only [evCW]
  split at h
  ·cases h
  ·rename_i s h1; rw [evOps_mono hc h1]; exact h
 | .reg true _ _ ops, st, r, h => by
  simp only [evC] at h
  simp only [evCW]
  split at h
  ·cases h
  ·rename_i s h1; rw [evDraw_mono hc h1]; exact h
 | .seq a b, st, r, h => by
  simp only [evC] at h
  simp only [evCW]
  split at h
  ·cases h
  ·rename_i s h1; rw [evC_up hc hL a h1]; exact evC_up hc hL b h
  ·rename_i r' hne h1
   rw [evC_up hc hL a h1]
   simp only [Option.some.injEq] at h
   subst h
   obtain ⟨x, s⟩ := r'
   cases x with
   | nrm => exact absurd rfl (hne s)
   | ext i => rfl
   | ret => rfl
 | .cond x a b, st, r, h => by
  simp only [evC] at h
  simp only [evCW]
  split at h
  ·rename_i hx; simp only [hx]; exact evC_up hc hL a h
  ·rename_i hx; simp only [hx]; exact evC_up hc hL b h
  ·cases h
 | .blk id a, st, r, h => by
  simp only [evC] at h
  simp only [evCW]
  cases h1 : evC c G me m n a st with
  | none => rw [h1] at h; cases h
  | some r' => rw [h1] at h; rw [evC_up hc hL a h1]; exact h
 | .loop a, st, r, h => by
  simp only [evC] at h
  simp only [evCW]
  exact hL _ _ _ _ (loopN_mono (exitN_mono fun s r h => evC_up hc hL a h) (Nat.le_refl _) h)
 | .exit _, st, r, h => h
 | .ret, st, r, h => h
open Classical in
theorem exists_W (G : Nat → Option CF) : ∃ W L, IsW G W L := by
 let L : LoopF := fun head b st => if h : ∃ n r, loopN head n b st = some r then some h.choose_spec.choose else none
 let W : CallF := fun f a o => if h : ∃ n r, evCall G n f a o = some r then some h.choose_spec.choose else none
 have hL : ∀ head b st r, L head b st = some r ↔ ∃ n, loopN head n b st = some r := by
  intro head b st r
  constructor
  ·intro h
   simp only [L] at h
   split at h
   ·rename_i hh
    cases h
    exact ⟨_, hh.choose_spec.choose_spec⟩
   ·cases h
  ·rintro ⟨n, hn⟩
   have hh : ∃ n r, loopN head n b st = some r := ⟨n, r, hn⟩
   simp only [L, dif_pos hh]
   have h1 := loopN_mono (fun s r h => h) (Nat.le_max_left n hh.choose) hn
   have h2 := loopN_mono (fun s r h => h) (Nat.le_max_right n hh.choose) hh.choose_spec.choose_spec
   rw [h1] at h2
   exact h2.symm
 have hW : ∀ f a o r, W f a o = some r ↔ ∃ n, evCall G n f a o = some r := by
  intro f a o r
  constructor
  ·intro h
   simp only [W] at h
   split at h
   ·rename_i hh
    cases h
    exact ⟨_, hh.choose_spec.choose_spec⟩
   ·cases h
  ·rintro ⟨n, hn⟩
   have hh : ∃ n r, evCall G n f a o = some r := ⟨n, r, hn⟩
   simp only [W, dif_pos hh]
   have h1 := evCall_mono (Nat.le_max_left n hh.choose) _ _ _ _ hn
   have h2 := evCall_mono (Nat.le_max_right n hh.choose) _ _ _ _ hh.choose_spec.choose_spec
   rw [h1] at h2
   exact h2.symm
 have hW2 : ∀ f a o r, W f a o = some r → ∃ N, ∀ n, N ≤ n → evCall G n f a o = some r := fun f a o r h => by
  obtain ⟨N, hN⟩ := (hW f a o r).1 h
  exact ⟨N, fun n hn => evCall_mono hn _ _ _ _ hN⟩
 refine ⟨W, L, fun f args os => ?_, fun head b st => ?_, fun f a o r h => (hW f a o r).1 h⟩
 ·apply Option.ext
  intro r
  rw [hW]
  constructor
  ·rintro ⟨n, hn⟩
   cases n with
   | zero => cases hn
   | succ n =>
    rw [evCall_succ] at hn
    unfold bodyW
    split at hn
    ·cases hn
    ·rename_i cf hG
     try simp only [hG]
     split at hn
     ·rename_i g hg; simp only [hg] at *; exact hn
     ·rename_i hg
      try simp only
      split at hn
      ·cases hn
      ·rename_i hnt
       rw [if_neg hnt]
       split at hn
       ·cases hn
       ·cases hn
       ·rename_i x st' hne h1
        try simp only [hg]
        rw [evC_up (fun f a o r h => (hW f a o r).2 ⟨n, h⟩) (fun head b st r h => (hL head b st r).2 ⟨n, h⟩) _ h1]
        cases x with
        | nrm => exact hn
        | ret => exact hn
        | ext i => exact absurd rfl (hne i)
  ·intro h
   unfold bodyW at h
   split at h
   ·cases h
   ·rename_i cf hG
    split at h
    ·rename_i g hg
     exact ⟨1, by rw [evCall_succ, hG]; simp only [hg]; exact h⟩
    ·rename_i hg
     split at h
     ·cases h
     ·rename_i hnt
      split at h
      ·cases h
      ·cases h
      ·rename_i x st' hne h1
       obtain ⟨N, hN⟩ := evC_cont hW2 (fun head b st r h => (hL head b st r).1 h) _ h1
       refine ⟨N + 1, ?_⟩
       rw [evCall_succ, hG]
       simp only [hg]
       rw [if_neg hnt, hN N (Nat.le_refl N)]
       cases x with
       | nrm => exact h
       | ret => exact h
       | ext i => exact absurd rfl (hne i)
 ·apply Option.ext
  intro r
  rw [hL]
  constructor
  ·rintro ⟨n, hn⟩
   cases n with
   | zero => cases hn
   | succ n =>
    simp only [loopN] at hn
    split at hn
    ·cases hn
    ·rename_i s h1; simp only [h1]; exact (hL _ _ _ _).2 ⟨n, hn⟩
    ·rename_i r' hne h1
     simp only [Option.some.injEq] at hn
     subst hn
     simp only [h1]
  ·intro h
   split at h
   ·cases h
   ·rename_i s h1
    obtain ⟨n, hn⟩ := (hL _ _ _ _).1 h
    exact ⟨n + 1, by simp only [loopN, h1]; exact hn⟩
   ·rename_i r' hne h1
    simp only [Option.some.injEq] at h
    subst h
    refine ⟨1, ?_⟩
    simp only [loopN, h1]
end Go.Gn

