/- Part 4 of a proof: an evaluator of the program, proved sound, and what it answers. -/
import Derived.Test.YtkgpnfeabojhcaaGreatA3
set_option linter.all false
namespace Go.Gn
open Go
def plain : I → Bool
 | .call _ _ => false
 | .callv _ _ => false
 | _ => true
section
variable {P : Program} {c : Cx} {w w0 : World} {nt : Nat} {ts : Ts} {a : Act} {os : List Obj} (hf : Frm c w nt ts a) (hst : Store w0 c os w)
include hf hst
theorem p_build {o : Oper} {t : TypeId} {parts : Array (Nat × Operand)} {ins : I} {call : CallF} {G : Nat → Option CF} {me : CF} {nb : Nat} {v : AV} {os' : List Obj} (ho : o.op = .build t parts) (hc : cI P (.build t parts) = some ins) (hv : evI call G me ins ts nb os = some (v, os')) : Does P o a w w0 c nb v os' := by
 simp only [cI, Option.bind_eq_bind, Option.bind_eq_some_iff] at hc
 obtain ⟨zs, hz, hc⟩ := hc
 split at hc
 ·rename_i fs hu
  simp only [Option.bind_eq_some_iff, Option.pure_def, Option.some.injEq] at hc
  obtain ⟨pl, hpl, ps, hps, rfl⟩ := hc
  simp only [evI, Option.map_eq_some_iff] at hv
  obtain ⟨cs, hcs, he⟩ := hv
  cases he
  exact (y_build hf hst hz hu hpl hps ho hcs).does hst nb
 ·cases hc
theorem p_mks {o : Oper} {t : TypeId} {len : Nat} {parts : Array (Nat × Operand)} {ins : I} {call : CallF} {G : Nat → Option CF} {me : CF} {nb : Nat} {v : AV} {os' : List Obj} (hnb : c.μ nb = none) (ho : o.op = .buildSlice t len parts) (hc : cI P (.buildSlice t len parts) = some ins) (hv : evI call G me ins ts nb os = some (v, os')) : Does P o a w w0 c nb v os' := by
 simp only [cI, Option.bind_eq_bind, Option.bind_eq_some_iff] at hc
 obtain ⟨e, he, sz, hsz, hc⟩ := hc
 split at hc
 ·cases hc
 ·rename_i hbig
  simp only [Option.bind_eq_some_iff] at hc
  obtain ⟨zs, hz, hc⟩ := hc
  split at hc
  ·cases hc
  ·rename_i hzl
   simp only [Option.bind_eq_some_iff, Option.pure_def, Option.some.injEq] at hc
   obtain ⟨ps, hps, rfl⟩ := hc
   simp only [ne_eq, Decidable.not_not] at hzl
   have hu : P.underlying t = some (.slice e) := by
    unfold elem? at he
    split at he
    ·rename_i e' hu; cases he; exact hu
    ·cases he
   simp only [evI] at hv
   split at hv
   ·cases hv
   ·rename_i cs hcs
    split at hv
    ·cases hv
    ·rename_i hcl
     simp only [ne_eq, Decidable.not_not] at hcl
     obtain ⟨h1, h2⟩ := d_mks (P := P) hf hst hnb hu hsz hbig hz hzl hps ho hcs hcl
     split at hv
     ·rename_i ds hds
      cases hv
      exact h1 ds hds
     ·cases hv
      exact h2
theorem elem_under {t e : TypeId} (he : elem? P t = some e) : P.underlying t = some (.slice e) := by
 unfold elem? at he
 split at he
 ·rename_i e' hu; cases he; exact hu
 ·cases he
theorem p_mksl {o : Oper} {t : TypeId} {l l' : Operand} {ins : I} {call : CallF} {G : Nat → Option CF} {me : CF} {nb : Nat} {v : AV} {os' : List Obj} (hnb : c.μ nb = none) (ho : o.op = .makeSlice t l l') (hc : cI P (.makeSlice t l l') = some ins) (hv : evI call G me ins ts nb os = some (v, os')) : Does P o a w w0 c nb v os' := by
 simp only [cI, Option.bind_eq_bind, Option.bind_eq_some_iff] at hc
 obtain ⟨e, he, i, hi, zs, hz, hc⟩ := hc
 split at hc
 ·cases hc
 ·rename_i hzl
  simp only [ne_eq, Decidable.not_not] at hzl
  simp only [Option.bind_eq_some_iff, Option.pure_def, Option.some.injEq] at hc
  obtain ⟨L, hL, L', hL', rfl⟩ := hc
  simp only [evI] at hv
  split at hv
  ·rename_i k1 a1 k2 b1 ds h1 h2 h3
   split at hv
   ·rename_i hcnd
    cases hv
    obtain ⟨g1, rfl, g3, g4⟩ := hcnd
    exact d_mksl hf hst hnb (elem_under hf hst he) hi hz hzl hL hL' ho h1 h2 h3 g1 g3 g4
   ·cases hv
  ·cases hv
theorem p_slice {o : Oper} {t : TypeId} {x : Operand} {lo hi mx : Option Operand} {ins : I} {call : CallF} {G : Nat → Option CF} {me : CF} {nb : Nat} {v : AV} {os' : List Obj} (ho : o.op = .slice t x lo hi mx) (hc : cI P (.slice t x lo hi mx) = some ins) (hv : evI call G me ins ts nb os = some (v, os')) : Does P o a w w0 c nb v os' := by
 cases mx with
 | some m => simp [cI] at hc
 | none =>
  simp only [cI] at hc
  split at hc
  ·rename_i hu
   simp only [Option.bind_eq_bind, Option.bind_eq_some_iff, Option.pure_def, Option.some.injEq] at hc
   obtain ⟨LO, hlo, HI, hhi, X', hx, rfl⟩ := hc
   simp only [evI] at hv
   split at hv
   ·rename_i s l h h1 h2 h3
    simp only [Option.map_eq_some_iff] at hv
    obtain ⟨v', hv', he⟩ := hv
    cases he
    exact (y_sstr hf hu ho hx hlo hhi h1 h2 h3 hv').does hst nb
   ·cases hv
  ·rename_i e hu
   simp only [Option.bind_eq_bind, Option.bind_eq_some_iff, Option.pure_def, Option.some.injEq] at hc
   obtain ⟨LO, hlo, HI, hhi, sz, hsz, X', hx, rfl⟩ := hc
   simp only [evI] at hv
   split at hv
   ·rename_i l h h2 h3
    simp only [Option.map_eq_some_iff] at hv
    obtain ⟨v', hv', he⟩ := hv
    cases he
    exact (y_ssl hf hst hu hsz ho hx hlo hhi h2 h3 hv').does hst nb
   ·cases hv
  ·cases hc
theorem p_bin {o : Oper} {op : BinOp} {t t' : TypeId} {x y : Operand} {ins : I} {call : CallF} {G : Nat → Option CF} {me : CF} {nb : Nat} {v : AV} {os' : List Obj} (ho : o.op = .binOp op t x y t') (hc : cI P (.binOp op t x y t') = some ins) (hv : evI call G me ins ts nb os = some (v, os')) : Does P o a w w0 c nb v os' := by
 have agg : ∀ {fs : Array Field} {ks : List Nat} {X' Y' : X} (neg : Bool), P.underlying t = some (.struct fs) → P.eqGuardType P.depth t = false → P.stoodInHeld t = false → kindsOf P fs.toList 0 = some ks → (if neg then op = .neq else op = .eql) → cX x = some X' → cX y = some Y' →
   evI call G me (.eqa neg ks X' Y') ts nb os = some (v, os') → Does P o a w w0 c nb v os' := by
  intro fs ks X' Y' neg hu h1 h2 hk hop hx hy hv
  simp only [evI] at hv
  split at hv
  ·rename_i xs ys g1 g2
   simp only [Option.map_eq_some_iff] at hv
   obtain ⟨b, hb, he⟩ := hv
   cases he
   cases neg
   ·simp at hop; subst hop
    simpa using (y_eqa hf hu h1 h2 hk (.inl rfl) ho hx hy g1 g2 hb).does hst nb
   ·simp at hop; subst hop
    simpa using (y_eqa hf hu h1 h2 hk (.inr rfl) ho hx hy g1 g2 hb).does hst nb
  ·cases hv
 have bool : ∀ {X' Y' : X} (neg : Bool), P.underlying t = some .bool → (if neg then op = .neq else op = .eql) → cX x = some X' → cX y = some Y' → evI call G me (.beq neg X' Y') ts nb os = some (v, os') → Does P o a w w0 c nb v os' := by
  intro X' Y' neg hu hop hx hy hv
  simp only [evI] at hv
  split at hv
  ·rename_i p q g1 g2
   cases hv
   cases neg
   ·simp at hop; subst hop
    simpa using (y_beq hf hu (.inl rfl) ho hx hy g1 g2).does hst nb
   ·simp at hop; subst hop
    simpa using (y_beq hf hu (.inr rfl) ho hx hy g1 g2).does hst nb
  ·cases hv
 have num : ∀ {X' Y' : X}, cX x = some X' → cX y = some Y' → evI call G me (.bin op X' Y') ts nb os = some (v, os') → Does P o a w w0 c nb v os' := by
  intro X' Y' hx hy hv
  simp only [evI, Option.map_eq_some_iff] at hv
  obtain ⟨v', hv', he⟩ := hv
  cases he
  exact (y_bin hf ho hx hy hv').does hst nb
 simp only [cI] at hc
 split at hc
 ·rename_i fs hu
  split at hc
  ·rename_i hg
   simp only [Bool.and_eq_true, Bool.not_eq_true'] at hg
   simp only [Option.bind_eq_bind, Option.bind_eq_some_iff] at hc
   obtain ⟨ks, hk, hc⟩ := hc
   split at hc
   ·simp only [Option.bind_eq_some_iff, Option.pure_def, Option.some.injEq] at hc
    obtain ⟨X', hx, Y', hy, rfl⟩ := hc
    exact agg false hu hg.1 hg.2 hk (by simp) hx hy hv
   ·simp only [Option.bind_eq_some_iff, Option.pure_def, Option.some.injEq] at hc
    obtain ⟨X', hx, Y', hy, rfl⟩ := hc
    exact agg true hu hg.1 hg.2 hk (by simp) hx hy hv
   ·cases hc
  ·cases hc
 ·simp only [Option.bind_eq_bind, Option.bind_eq_some_iff, Option.pure_def, Option.some.injEq] at hc
  obtain ⟨X', hx, Y', hy, rfl⟩ := hc
  exact num hx hy hv
 ·simp only [Option.bind_eq_bind, Option.bind_eq_some_iff, Option.pure_def, Option.some.injEq] at hc
  obtain ⟨X', hx, Y', hy, rfl⟩ := hc
  exact num hx hy hv
 ·rename_i hu
  split at hc
  ·simp only [Option.bind_eq_bind, Option.bind_eq_some_iff, Option.pure_def, Option.some.injEq] at hc
   obtain ⟨X', hx, Y', hy, rfl⟩ := hc
   exact bool false hu (by simp) hx hy hv
  ·simp only [Option.bind_eq_bind, Option.bind_eq_some_iff, Option.pure_def, Option.some.injEq] at hc
   obtain ⟨X', hx, Y', hy, rfl⟩ := hc
   exact bool true hu (by simp) hx hy hv
  ·cases hc
 ·cases hc
theorem p_conv {o : Oper} {s d : TypeId} {x : Operand} {ins : I} {call : CallF} {G : Nat → Option CF} {me : CF} {nb : Nat} {v : AV} {os' : List Obj} (ho : o.op = .convert s d x) (hc : cI P (.convert s d x) = some ins) (hv : evI call G me ins ts nb os = some (v, os')) : Does P o a w w0 c nb v os' := by
 simp only [cI] at hc
 split at hc
 ·rename_i k1 k hs hd
  simp only [Option.bind_eq_bind, Option.bind_eq_some_iff, Option.pure_def, Option.some.injEq] at hc
  obtain ⟨X', hx, rfl⟩ := hc
  simp only [evI] at hv
  split at hv
  ·rename_i k2 n g
   cases hv
   exact (y_conv hf hs hd ho hx g).does hst nb
  ·cases hv
 ·rename_i hs hd
  simp only [Option.bind_eq_bind, Option.bind_eq_some_iff, Option.pure_def, Option.some.injEq] at hc
  obtain ⟨X', hx, rfl⟩ := hc
  simp only [evI] at hv
  split at hv
  ·rename_i q g
   cases hv
   exact (y_cstr hf hs hd ho hx g).does hst nb
  ·cases hv
 ·rename_i e hs hd
  by_cases he : P.underlying e = some (.int .u8)
  ·rw [he] at hc
   simp only [if_true, Option.bind_eq_bind, Option.bind_eq_some_iff, Option.pure_def, Option.some.injEq] at hc
   obtain ⟨X', hx, rfl⟩ := hc
   simp only [evI] at hv
   split at hv
   ·rename_i m ys g
    simp only [Option.map_eq_some_iff] at hv
    obtain ⟨l, hl, hh⟩ := hv
    cases hh
    exact (y_b2s hf hst hs he hd ho hx (.inl ⟨_, g⟩) hl).does hst nb
   ·rename_i q g
    split at hv
    ·rename_i g2
     simp only [Option.map_eq_some_iff] at hv
     obtain ⟨l, hl, hh⟩ := hv
     cases hh
     exact (y_b2s hf hst hs he hd ho hx (.inr (.inl ⟨_, _, _, _, g, g2⟩)) hl).does hst nb
    ·rename_i g2
     simp only [Option.map_eq_some_iff] at hv
     obtain ⟨l, hl, hh⟩ := hv
     cases hh
     exact (y_b2s hf hst hs he hd ho hx (.inr (.inr ⟨_, _, g, g2⟩)) hl).does hst nb
    ·cases hv
   ·cases hv
  ·split at hc
   ·rename_i hm; exact absurd hm he
   ·cases hc
 ·cases hc
theorem p_call {o : Oper} {cl : Call} {ins : I} {call : CallF} {G : Nat → Option CF} {me : CF} {nb : Nat} {v : AV} {os' : List Obj} (hnb : c.μ nb = none) (hp : plain ins = true) (ho : o.op = .call cl) (hc : cI P (.call cl) = some ins) (hv : evI call G me ins ts nb os = some (v, os')) : Does P o a w w0 c nb v os' := by
 simp only [cI] at hc
 split at hc
 ·simp only [Option.bind_eq_bind, Option.bind_eq_some_iff, Option.pure_def, Option.some.injEq] at hc
  obtain ⟨X', hx, rfl⟩ := hc
  cases hp
 ·simp only [Option.bind_eq_bind, Option.bind_eq_some_iff, Option.pure_def, Option.some.injEq] at hc
  obtain ⟨X', hx, Y', hy, rfl⟩ := hc
  cases hp
 ·rename_i hcl
  simp only [Option.bind_eq_bind, Option.bind_eq_some_iff] at hc
  obtain ⟨t, ht, hc⟩ := hc
  split at hc
  ·rename_i x hu hargs
   simp only [Option.bind_eq_some_iff, Option.pure_def, Option.some.injEq] at hc
   obtain ⟨X', hx, rfl⟩ := hc
   simp only [evI] at hv
   split at hv
   ·rename_i s g
    cases hv
    exact (y_lens hf hst hu ho hcl ht hargs hx g).does hst nb
   ·cases hv
  ·rename_i x e hu hargs
   simp only [Option.bind_eq_some_iff, Option.pure_def, Option.some.injEq] at hc
   obtain ⟨X', hx, rfl⟩ := hc
   simp only [evI, Option.map_eq_some_iff] at hv
   obtain ⟨n, hn, hh⟩ := hv
   cases hh
   exact (y_len hf hst hu ho hcl ht hargs hx hn).does hst nb
  ·cases hc
 ·rename_i hcl
  simp only [Option.bind_eq_bind, Option.bind_eq_some_iff] at hc
  obtain ⟨t, ht, t1, ht1, e, he, i, hi, hc⟩ := hc
  split at hc
  ·rename_i e1 s x hu1 hargs
   simp only [Option.bind_eq_some_iff] at hc
   obtain ⟨zs, hz, hc⟩ := hc
   split at hc
   ·cases hc
   ·rename_i hzl
    simp only [ne_eq, Decidable.not_not] at hzl
    simp only [Option.bind_eq_some_iff, Option.pure_def, Option.some.injEq] at hc
    obtain ⟨S', hs, X', hx, rfl⟩ := hc
    simp only [evI] at hv
    exact d_app hf hst hnb (elem_under hf hst he) hu1 hi hz hzl ho hcl ht ht1 hargs hs hx hv
  ·cases hc
 ·simp only [Option.bind_eq_bind, Option.bind_eq_some_iff] at hc
  obtain ⟨t, ht, e, he, hc⟩ := hc
  split at hc
  ·simp only [Option.bind_eq_some_iff, Option.pure_def, Option.some.injEq] at hc
   obtain ⟨_, _, _, _, _, _, rfl⟩ := hc
   simp [evI] at hv
  ·cases hc
 ·rename_i hcl
  simp only [Option.bind_eq_bind, Option.bind_eq_some_iff, Option.pure_def, Option.some.injEq] at hc
  obtain ⟨X', hx, rfl⟩ := hc
  simp only [evI, Option.map_eq_some_iff] at hv
  obtain ⟨v', hv', hh⟩ := hv
  cases hh
  exact (y_minmax hf hst true ho hcl hx hv').does hst nb
 ·rename_i hcl
  simp only [Option.bind_eq_bind, Option.bind_eq_some_iff, Option.pure_def, Option.some.injEq] at hc
  obtain ⟨X', hx, rfl⟩ := hc
  simp only [evI, Option.map_eq_some_iff] at hv
  obtain ⟨v', hv', hh⟩ := hv
  cases hh
  exact (y_minmax hf hst false ho hcl hx hv').does hst nb
 ·simp only [Option.bind_eq_bind, Option.bind_eq_some_iff] at hc
  obtain ⟨t, ht, e, he, hc⟩ := hc
  split at hc
  ·simp only [Option.bind_eq_some_iff, Option.pure_def, Option.some.injEq] at hc
   obtain ⟨_, _, _, _, _, _, rfl⟩ := hc
   simp [evI] at hv
  ·cases hc
 ·cases hc
theorem plain_sound {o : Oper} {ins : I} {call : CallF} {G : Nat → Option CF} {me : CF} {nb : Nat} {v : AV} {os' : List Obj} (hnb : c.μ nb = none) (hc : cI P o.op = some ins) (hp : ∀ cl, o.op = .call cl → plain ins = true) (hv : evI call G me ins ts nb os = some (v, os')) : Does P o a w w0 c nb v os' := by
 cases hop : o.op <;> rw [hop] at hc
 case move x =>
  simp only [cI, Option.bind_eq_bind, Option.bind_eq_some_iff, Option.pure_def, Option.some.injEq] at hc
  obtain ⟨X', hx, rfl⟩ := hc
  simp only [evI, AV.force_eq] at hv
  cases hv
  exact (y_mv hf (.inl hop) hx).does hst nb
 case assign x =>
  simp only [cI, Option.bind_eq_bind, Option.bind_eq_some_iff, Option.pure_def, Option.some.injEq] at hc
  obtain ⟨X', hx, rfl⟩ := hc
  simp only [evI, AV.force_eq] at hv
  cases hv
  exact (y_mv hf (.inr hop) hx).does hst nb
 case pick x y z =>
  simp only [cI, Option.bind_eq_bind, Option.bind_eq_some_iff, Option.pure_def, Option.some.injEq] at hc
  obtain ⟨X', hx, Y', hy, Z', hz, rfl⟩ := hc
  simp only [evI, AV.force_eq] at hv
  split at hv
  ·rename_i g; cases hv; exact (y_pick hf hop hx hy hz g).does hst nb
  ·rename_i g; cases hv; exact (y_pick hf hop hx hy hz g).does hst nb
  ·cases hv
 case alloc e =>
  simp only [cI, Option.bind_eq_bind, Option.bind_eq_some_iff, Option.pure_def, Option.some.injEq] at hc
  obtain ⟨zs, hz, rfl⟩ := hc
  simp only [evI] at hv
  cases hv
  exact d_alloc hf hst hnb hz hop
 case box e x =>
  simp only [cI, Option.bind_eq_bind, Option.bind_eq_some_iff, Option.pure_def, Option.some.injEq] at hc
  obtain ⟨X', hx, rfl⟩ := hc
  simp only [evI, AV.force_eq] at hv
  split at hv
  ·rename_i g; cases hv; exact d_box hf hst hnb hx g hop
  ·cases hv
 case build t parts => exact p_build hf hst hop hc hv
 case buildSlice t len parts => exact p_mks hf hst hnb hop hc hv
 case makeSlice t l l' => exact p_mksl hf hst hnb hop hc hv
 case load t x =>
  simp only [cI, Option.bind_eq_bind, Option.bind_eq_some_iff, Option.pure_def, Option.some.injEq] at hc
  obtain ⟨n, hn, u, hu, X', hx, rfl⟩ := hc
  simp only [evI, Option.map_eq_some_iff] at hv
  obtain ⟨v', hv', he⟩ := hv
  cases he
  exact (y_load hf hst hu hn hop hx hv').does hst nb
 case store t x y =>
  simp only [cI, Option.bind_eq_bind, Option.bind_eq_some_iff, Option.pure_def, Option.some.injEq] at hc
  obtain ⟨n, hn, X', hx, Y', hy, rfl⟩ := hc
  simp only [evI, Option.map_eq_some_iff] at hv
  obtain ⟨v', hv', he⟩ := hv
  cases he
  exact d_store hf hst hn hop hx hy hv'
 case nilCheck x =>
  simp only [cI, Option.bind_eq_bind, Option.bind_eq_some_iff, Option.pure_def, Option.some.injEq] at hc
  obtain ⟨X', hx, rfl⟩ := hc
  simp only [evI] at hv
  split at hv
  ·rename_i g; cases hv; exact (y_nilc hf hop hx g (.inl ⟨_, _, rfl⟩)).does hst nb
  ·rename_i g; cases hv; exact (y_nilc hf hop hx g (.inr (.inl ⟨_, _, _, rfl⟩))).does hst nb
  ·rename_i g; cases hv; exact (y_nilc hf hop hx g (.inr (.inr (.inl ⟨_, _, _, rfl⟩)))).does hst nb
  ·rename_i g; cases hv; exact (y_nilc hf hop hx g (.inr (.inr (.inr ⟨_, _, _, rfl⟩)))).does hst nb
  ·cases hv
 case binOp op t x y t' => exact p_bin hf hst hop hc hv
 case unOp op t x =>
  cases op
  case not =>
   simp only [cI, Option.bind_eq_bind, Option.bind_eq_some_iff, Option.pure_def, Option.some.injEq] at hc
   obtain ⟨X', hx, rfl⟩ := hc
   simp only [evI] at hv
   split at hv
   ·rename_i g; cases hv; exact (y_not hf hop hx g).does hst nb
   ·cases hv
  case neg =>
   simp only [cI, Option.bind_eq_bind, Option.bind_eq_some_iff, Option.pure_def, Option.some.injEq] at hc
   obtain ⟨X', hx, rfl⟩ := hc
   simp only [evI] at hv
   split at hv
   ·rename_i g; cases hv; exact (y_neg hf hop hx g).does hst nb
   ·cases hv
  all_goals (simp only [cI] at hc; cases hc)
 case convert s d x => exact p_conv hf hst hop hc hv
 case makeFunc fn first caps =>
  cases fn
  case func f =>
   simp only [cI] at hc
   split at hc
   ·rename_i h0
    simp only [cXs, Option.bind_eq_bind, Option.bind_eq_some_iff, Option.pure_def, Option.some.injEq] at hc
    obtain ⟨cs, hcs, rfl⟩ := hc
    simp only [evI, forceL_eq] at hv
    cases hv
    exact (y_mkfn hf h0 hop hcs).does hst nb
   ·cases hc
  all_goals (simp only [cI] at hc; cases hc)
 case slice t x lo hi mx => exact p_slice hf hst hop hc hv
 case fieldAddr s x j =>
  simp only [cI] at hc
  split at hc
  ·rename_i fs hu
   simp only [Option.bind_eq_bind, Option.bind_eq_some_iff] at hc
   obtain ⟨f, hf', n, hn, hc⟩ := hc
   split at hc
   ·cases hc
   ·rename_i h0
    simp only [Option.bind_eq_some_iff, Option.pure_def, Option.some.injEq] at hc
    obtain ⟨X', hx, rfl⟩ := hc
    simp only [evI] at hv
    split at hv
    ·rename_i g; cases hv; exact (y_fadr hf hu hf' hn h0 hop hx g (.inl ⟨_, _, rfl, rfl⟩)).does hst nb
    ·rename_i g; cases hv; exact (y_fadr hf hu hf' hn h0 hop hx g (.inr (.inl ⟨_, _, _, rfl, rfl⟩))).does hst nb
    ·rename_i g; cases hv; exact (y_fadr hf hu hf' hn h0 hop hx g (.inr (.inr ⟨_, _, _, rfl, rfl⟩))).does hst nb
    ·cases hv
  ·cases hc
 case indexAddr t x i =>
  simp only [cI, Option.bind_eq_bind, Option.bind_eq_some_iff, Option.pure_def, Option.some.injEq] at hc
  obtain ⟨e, he, sz, hsz, X', hx, I', hi, rfl⟩ := hc
  simp only [evI] at hv
  split at hv
  ·rename_i g
   simp only [Option.map_eq_some_iff] at hv
   obtain ⟨v', hv', hh⟩ := hv
   cases hh
   exact (y_iadr hf hst (elem_under hf hst he) hsz hop hx hi g hv').does hst nb
  ·cases hv
 case index t x i =>
  simp only [cI] at hc
  split at hc
  ·rename_i hu
   simp only [Option.bind_eq_bind, Option.bind_eq_some_iff, Option.pure_def, Option.some.injEq] at hc
   obtain ⟨X', hx, I', hi, rfl⟩ := hc
   simp only [evI] at hv
   split at hv
   ·rename_i g1 g2
    split at hv
    ·rename_i hb
     cases hv
     exact (y_idx hf hu hop hx hi g1 g2 hb).does hst nb
    ·cases hv
   ·cases hv
  ·cases hc
 case extract x i =>
  simp only [cI, Option.bind_eq_bind, Option.bind_eq_some_iff, Option.pure_def, Option.some.injEq] at hc
  obtain ⟨X', hx, rfl⟩ := hc
  simp only [evI] at hv
  split at hv
  ·rename_i g
   simp only [Option.map_eq_some_iff] at hv
   obtain ⟨v', hv', hh⟩ := hv
   cases hh
   exact (y_ext hf hop hx g hv').does hst nb
  ·cases hv
 case call cl => exact p_call hf hst hnb (hp cl hop) hop hc hv
 all_goals (simp only [cI] at hc; cases hc)
end
end Go.Gn

namespace Go.Gn
open Go
theorem RepD.sub {S S' : Nat → Prop} {w : World} {d : D} {v : Value} (h : RepD S w d v) (hs : ∀ b, S b → S' b) : RepD S' w d v := h.mono (Keep.refl _ _) hs
structure Rn (nb : Bool) (c : Cx) (ρ : Nat → Option Nat) (c2 : Cx) : Prop where
  fix : nb = false → ∀ b, c.fix b → c2.fix b
  imm : ∀ b, c.imm b → c2.imm b
  μ : ∀ o p m, ρ o = some p → c.μ o = some m → ∃ m', c2.μ p = some m' ∧ m.le m'
theorem Rn.set {nb : Bool} {c c2 : Cx} {ρ : Nat → Option Nat} (h : Rn nb c ρ c2) {m : Md} (hm : m = .br → nb = false) (b : Nat) (hb : c.set m b) : c2.set m b := by
  cases m
  · exact h.fix (hm rfl) b hb
  · exact h.imm b hb
mutual
theorem RepAV.ren {nb : Bool} {c c2 : Cx} {ρ : Nat → Option Nat} {w : World} (e : Rn nb c ρ c2) : ∀ {a : AV} {v : Value}, RepAV c w a v → (nb = true → a.noBr = true) → RepAV c2 w (a.ren ρ) v
  | _, _, .int k n, _ => by simp only [AV.ren]; exact .int k n
  | _, _, .bool b, _ => by simp only [AV.ren]; exact .bool b
  | _, _, .str s, _ => by simp only [AV.ren]; exact .str s
  | _, _, .sl m xs v h, hb => by
    simp only [AV.ren]
    exact .sl m xs v (h.sub (e.set (by rintro rfl; cases nb; · rfl
                                       · simp [AV.noBr] at hb)))
  | _, _, .nils, _ => by simp only [AV.ren]; exact .nils
  | _, _, .ep m cs off b o hbb h, hb => by
    simp only [AV.ren]
    have hs := e.set (m := m) (by rintro rfl; cases nb; · rfl
                                  · simp [AV.noBr] at hb)
    exact .ep m cs off b o (hs b hbb) fun i d hd => let ⟨u, hu, hr⟩ := h i d hd; ⟨u, hu, hr.sub hs⟩
  | _, _, .ptr o off b m hm hb, _ => by
    simp only [AV.ren]
    split
    · rename_i p hp
      obtain ⟨m', h1, h2⟩ := e.μ o p m hp hm
      exact .ptr p off b m' h1 (h2.blk.trans hb)
    · exact .top _
  | _, _, .rp o j q b m hm hb, _ => by
    simp only [AV.ren]
    split
    · rename_i p hp
      obtain ⟨m', h1, h2⟩ := e.μ o p m hp hm
      rw [← h2.sz]
      exact .rp p j q b m' h1 (h2.blk.trans hb)
    · exact .top _
  | _, _, .nilp, _ => by simp only [AV.ren]; exact .nilp
  | _, _, .hw o m hm, _ => by
    simp only [AV.ren]
    split
    · rename_i p hp
      obtain ⟨m', h1, h2⟩ := e.μ o p m hp hm
      rw [← h2.blk, ← h2.len, ← h2.cap]
      exact .hw p m' h1
    · exact .top _
  | _, _, .hs o lo len A cap m hm hc h, _ => by
    simp only [AV.ren]
    split
    · rename_i p hp
      obtain ⟨m', h1, h2⟩ := e.μ o p m hp hm
      exact .hs p lo len A cap m' h1 hc (by rw [h2.blk, h2.sz]; exact h)
    · exact .top _
  | _, _, .sub o j len A cap m hm hc h, _ => by
    simp only [AV.ren]
    split
    · rename_i p hp
      obtain ⟨m', h1, h2⟩ := e.μ o p m hp hm
      exact .sub p j len A cap m' h1 hc (fun hp => let ⟨b, h3, h4⟩ := h hp; ⟨b, h2.nest _ _ h3, h4⟩)
    · exact .top _
  | _, _, .subp o j i b m hm hb, _ => by
    simp only [AV.ren]
    split
    · rename_i p hp
      obtain ⟨m', h1, h2⟩ := e.μ o p m hp hm
      exact .subp p j i b m' h1 (h2.nest _ _ hb)
    · exact .top _
  | _, _, .fn f caps vs h, hb => by
    simp only [AV.ren]
    exact .fn f _ vs (h.ren e (by simpa [AV.noBr] using hb))
  | _, _, .agg cs vs h, hb => by
    simp only [AV.ren]
    exact .agg _ vs (h.ren e (by simpa [AV.noBr] using hb))
  | _, _, .tup cs vs h, hb => by
    simp only [AV.ren]
    exact .tup _ vs (h.ren e (by simpa [AV.noBr] using hb))
  | _, _, .un, _ => by simp only [AV.ren]; exact .un
  | _, _, .top v, _ => by simp only [AV.ren]; exact .top v
theorem RepAVs.ren {nb : Bool} {c c2 : Cx} {ρ : Nat → Option Nat} {w : World} (e : Rn nb c ρ c2) : ∀ {aS : List AV} {vs : List Value}, RepAVs c w aS vs → (nb = true → AV.noBrL aS = true) → RepAVs c2 w (AV.renL ρ aS) vs
  | _, _, .nil, _ => by simp only [AV.renL]; exact .nil
  | _, _, .cons a v aS vs h hs, hb => by
    simp only [AV.renL]
    exact .cons _ _ _ _ (h.ren e (fun hn => by have := hb hn; simp [AV.noBrL] at this; exact this.1)) (hs.ren e (fun hn => by have := hb hn; simp [AV.noBrL] at this; exact this.2))
end
theorem RepRow.sub {imm imm' : Nat → Prop} {w : World} {m : Meta} {sz k c0 : Nat} {xs : List (List D)} (h : RepRow imm w m sz k c0 xs) (hs : ∀ b, imm b → imm' b) : RepRow imm' w m sz k c0 xs :=
  h.mono (Keep.refl _ _) hs (fun _ _ => rfl) (fun _ _ _ _ => rfl)
theorem RepObj.ren {nb : Bool} {c c2 : Cx} {ρ : Nat → Option Nat} {w : World} (e : Rn nb c ρ c2) {m : Meta} {x : Obj} (h : RepObj c w m x) (hb : nb = true → x.noBr = true) : RepObj c2 w m (x.ren ρ) := by
  cases x with
  | box cs =>
    obtain ⟨b, vs, el, hm, hh, hr⟩ := h
    exact ⟨b, vs, el, hm, hh, hr.ren e (by simpa [Obj.noBr] using hb)⟩
  | row sz k c0 xs => exact RepRow.sub h e.imm
  | frz sz xs => exact ⟨h.1.sub e.imm, fun b hbb => e.imm b (h.2 b hbb)⟩
  | dead => trivial
def likeObj : Obj → Obj → Prop
  | .box _, .box _ => True
  | .row _ k _ _, .row _ k' _ _ => k = k'
  | .frz _ _, .frz _ _ => True
  | .dead, .dead => True
  | _, _ => False
theorem owns_like {μ μ' : Mu} {os os' : List Obj} {o o' : Nat} {l : Option Nat} {b : Nat} (h : Owns μ os o l b) (hl : likeObj (os.getD o .dead) (os'.getD o' .dead)) (hm : μ' o' = μ o) : Owns μ' os' o' l b := by
  obtain ⟨m, hmm, ho⟩ := h
  refine ⟨m, hm.trans hmm, ?_⟩
  generalize os.getD o .dead = x at ho hl
  generalize os'.getD o' .dead = y at hl
  cases x <;> cases y <;> first | exact False.elim hl | skip
  · cases l <;> exact ho
  · simp only [likeObj] at hl; subst hl; cases l <;> exact ho
  · cases l <;> exact ho
  · cases l <;> exact ho
theorem like_ren (ρ : Nat → Option Nat) (x : Obj) : likeObj (x.ren ρ) x := by cases x <;> simp [likeObj, Obj.ren]
theorem getD_map_ren (ord : List Nat) (f : Nat → Obj) (i : Nat) : (ord.map f).getD i .dead = match ord[i]? with | some o => f o | none => .dead := by
  simp only [List.getD_eq_getElem?_getD, List.getElem?_map]
  cases ord[i]? <;> rfl
def Cx.pick (c : Cx) (ord : List Nat) : Cx := { c with μ := fun i => (ord[i]?).bind c.μ }
theorem posOf_get : ∀ (l : List Nat) (o i p : Nat), posOf l o i = some p → ∃ j, p = i + j ∧ l[j]? = some o
  | [], o, i, p, h => by simp [posOf] at h
  | x :: l, o, i, p, h => by
    unfold posOf at h
    split at h
    · rename_i hx
      simp at hx h
      exact ⟨0, by omega, by simp [hx]⟩
    · obtain ⟨j, h1, h2⟩ := posOf_get l o (i + 1) p h
      exact ⟨j + 1, by omega, by simpa using h2⟩
theorem rn_pick (c : Cx) (ord : List Nat) : Rn false c (posOf ord) (c.pick ord) := by
  refine ⟨fun _ _ h => h, fun _ h => h, fun o p m hp hm => ?_⟩
  obtain ⟨j, h1, h2⟩ := posOf_get ord o 0 p hp
  have : p = j := by omega
  subst this
  exact ⟨m, by simp [Cx.pick, h2, hm], m.le_refl⟩
theorem nodup_inj : ∀ {l : List Nat} (h : l.Nodup) {i j a : Nat}, l[i]? = some a → l[j]? = some a → i = j
  | [], _, i, j, a, h, _ => by simp at h
  | x :: l, h, 0, 0, a, _, _ => rfl
  | x :: l, h, 0, j + 1, a, h1, h2 => by
    simp at h1 h2; subst h1
    exact absurd (List.mem_of_getElem? h2) (List.nodup_cons.1 h).1
  | x :: l, h, i + 1, 0, a, h1, h2 => by
    simp at h1 h2; subst h2
    exact absurd (List.mem_of_getElem? h1) (List.nodup_cons.1 h).1
  | x :: l, h, i + 1, j + 1, a, h1, h2 => by
    simp at h1 h2
    rw [nodup_inj (List.nodup_cons.1 h).2 h1 h2]
theorem Store.pick {w0 : World} {c : Cx} {os : List Obj} {w : World} (h : Store w0 c os w) (ord : List Nat) (hnd : ord.Nodup) : Store w0 (c.pick ord) (pickOs ord os) w := by
  have hget : ∀ i, (pickOs ord os).getD i .dead = match ord[i]? with | some o => (os.getD o .dead).ren (posOf ord) | none => .dead := fun i => getD_map_ren ord _ i
  have own : ∀ i l b, Owns (c.pick ord).μ (pickOs ord os) i l b → ∃ o, ord[i]? = some o ∧ Owns c.μ os o l b := by
    intro i l b ho
    cases hi : ord[i]? with
    | none =>
      have := ho.not_free
      rw [hget, hi] at this
      simp [freeObj] at this
    | some o =>
      refine ⟨o, rfl, owns_like ho ?_ (by simp [Cx.pick, hi])⟩
      rw [hget, hi]
      exact like_ren _ _
  refine ⟨fun i x hx hne => ?_, fun i l i' l' b h1 h2 => ?_, fun i l b h1 => ?_, h.immlt, h.fixlt, h.othlt, h.sep, h.frame, h.grow, h.same⟩
  · rw [hget] at hx
    cases hi : ord[i]? with
    | none => rw [hi] at hx; exact absurd hx.symm hne
    | some o =>
      rw [hi] at hx
      simp only at hx
      have hne' : os.getD o .dead ≠ .dead := by
        intro hd
        rw [hd] at hx
        exact hne hx.symm
      obtain ⟨m, hm, hr⟩ := h.obj o _ rfl hne'
      refine ⟨m, by simp [Cx.pick, hi, hm], ?_⟩
      rw [← hx]
      exact hr.ren (rn_pick c ord) (fun h => by cases h)
  · obtain ⟨o, ho, h3⟩ := own _ _ _ h1
    obtain ⟨o', ho', h4⟩ := own _ _ _ h2
    obtain ⟨rfl, rfl⟩ := h.uniq _ _ _ _ _ h3 h4
    exact ⟨nodup_inj hnd ho ho', rfl⟩
  · obtain ⟨o, ho, h3⟩ := own _ _ _ h1
    exact h.lt _ _ _ h3
end Go.Gn

namespace Go.Gn
open Go
theorem Store.refix {w0 : World} {c : Cx} {os : List Obj} {w : World} (h : Store w0 c os w) (fix' oth' : Nat → Prop) (h1 : ∀ b, c.fix b → fix' b) (h2 : ∀ b, fix' b → b < w.heap.size) (h3 : ∀ o l b, Owns c.μ os o l b → ¬ fix' b ∧ ¬ oth' b) (h8 : ∀ b, oth' b → b < w.heap.size ∧ ¬ c.imm b) :
  Store w { c with fix := fix', oth := oth' } os w := by
 refine ⟨fun o x hx hne => ?_, h.uniq, fun o l b ho => ?_, h.immlt, h2, fun b hb => (h8 b hb).1, fun b hi ho => (h8 b ho).2 hi, Keep.refl _ _, Nat.le_refl _, rfl, rfl, rfl⟩
 ·obtain ⟨m, hm, hr⟩ := h.obj o x hx hne
  refine ⟨m, hm, ?_⟩
  have e : Rn false c (fun o => some o) { c with fix := fix', oth := oth' } := ⟨fun _ => h1, fun _ h => h, fun o p m hp hm => by cases hp; exact ⟨m, hm, m.le_refl⟩⟩
  cases x with
  | box cs =>
   obtain ⟨b, vs, el, hm, hh, hr⟩ := hr
   refine ⟨b, vs, el, hm, hh, RepAVs.of_get hr.length fun i a ha => ?_⟩
   obtain ⟨v, hv, hrv⟩ := hr.get i a ha
   refine ⟨v, hv, ?_⟩
   have := hrv.ren e (fun h => by cases h)
   have id : ∀ a : AV, a.ren (fun o => some o) = a := ren_id
   rwa [id] at this
  | row sz k c0 xs => exact hr
  | frz sz xs => exact hr
  | dead => trivial
 ·obtain ⟨h4, h5, h6, h7⟩ := h.lt o l b ho
  exact ⟨h4, h5, h3 o l b ho⟩
where
 ren_id : ∀ a : AV, a.ren (fun o => some o) = a
  | .int _ _ => by simp [AV.ren]
  | .bool _ => by simp [AV.ren]
  | .str _ => by simp [AV.ren]
  | .sl _ _ => by simp [AV.ren]
  | .nils => by simp [AV.ren]
  | .ep _ _ _ => by simp [AV.ren]
  | .ptr _ _ => by simp [AV.ren]
  | .rp _ _ _ => by simp [AV.ren]
  | .nilp => by simp [AV.ren]
  | .hw _ => by simp [AV.ren]
  | .hs _ _ _ => by simp [AV.ren]
  | .sub _ _ _ => by simp [AV.ren]
  | .subp _ _ _ => by simp [AV.ren]
  | .fn f caps => by simp only [AV.ren]; rw [renL_id caps]
  | .agg cs => by simp only [AV.ren]; rw [renL_id cs]
  | .tup cs => by simp only [AV.ren]; rw [renL_id cs]
  | .un => by simp [AV.ren]
  | .top => by simp [AV.ren]
 renL_id : ∀ l : List AV, AV.renL (fun o => some o) l = l
  | [] => by simp [AV.renL]
  | a :: l => by simp only [AV.renL]; rw [ren_id a, renL_id l]
def lentB (c : Cx) (os : List Obj) (sel : List Nat) : Nat → Prop := fun b => c.fix b ∨ c.imm b ∨ ∃ q l, q ∉ sel ∧ Owns c.μ os q l b
def othB (c : Cx) (os : List Obj) (sel : List Nat) : Nat → Prop := fun b => c.oth b ∨ ∃ q l, q ∉ sel ∧ Owns c.μ os q l b
def Cx.lend (c : Cx) (os : List Obj) (sel : List Nat) : Cx := { c.pick sel with fix := lentB c os sel, oth := othB c os sel }
theorem owns_pick {c : Cx} {os : List Obj} {ord : List Nat} {i : Nat} {l : Option Nat} {b : Nat} (ho : Owns (c.pick ord).μ (pickOs ord os) i l b) : ∃ o, ord[i]? = some o ∧ Owns c.μ os o l b := by
 have hget : (pickOs ord os).getD i .dead = match ord[i]? with | some o => (os.getD o .dead).ren (posOf ord) | none => .dead := getD_map_ren ord _ i
 cases hi : ord[i]? with
 | none =>
  have := ho.not_free
  rw [hget, hi] at this
  simp [freeObj] at this
 | some o =>
  refine ⟨o, rfl, owns_like ho ?_ (by simp [Cx.pick, hi])⟩
  rw [hget, hi]
  exact like_ren _ _
theorem Store.lend {w0 : World} {c : Cx} {os : List Obj} {w : World} (h : Store w0 c os w) (sel : List Nat) (hnd : sel.Nodup) : Store w (c.lend os sel) (pickOs sel os) w := by
 refine (h.pick sel hnd).refix (lentB c os sel) (othB c os sel) (fun b hb => .inl hb) (fun b hb => ?_) (fun i l b ho => ?_) (fun b hb => ?_)
 ·rcases hb with hb | hb | ⟨q, l, _, hq⟩
  ·exact h.fixlt' b hb
  ·exact h.immlt b hb
  ·exact (h.lt _ _ _ hq).1
 ·obtain ⟨o, hi, ho⟩ := owns_pick ho
  obtain ⟨h1, h2, h3, h4⟩ := h.lt _ _ _ ho
  have hn : ¬ ∃ q l, q ∉ sel ∧ Owns c.μ os q l b := by
   rintro ⟨q, l', hq, hqo⟩
   obtain ⟨rfl, _⟩ := h.uniq _ _ _ _ _ ho hqo
   exact hq (List.mem_of_getElem? hi)
  exact ⟨fun hb => hb.elim h3 (fun hb => hb.elim h2 hn), fun hb => hb.elim h4 hn⟩
 ·rcases hb with hb | ⟨q, l, _, hq⟩
  ·exact ⟨h.othlt b hb, fun hi => h.sep b hi hb⟩
  ·exact ⟨(h.lt _ _ _ hq).1, (h.lt _ _ _ hq).2.1⟩
theorem row_view {imm S : Nat → Prop} {w : World} {m : Meta} {sz k c0 : Nat} {xs : List (List D)} (h : RepRow imm w m sz k c0 xs) (hs : ∀ b, imm b → S b) (hb : ∀ b, m.blk = some b → S b) (hn : ∀ j b, j < k → m.nest j = some b → S b) {lo len cap : Nat} {A : Option Addr} (hA : 0 < len → ∃ b, m.blk = some b ∧ A = some ⟨b, lo * m.sz, none⟩) (hl : lo + len ≤ xs.length) (hc : len ≤ cap) :
  RepD S w (.sl (view xs lo len)) (.slice A len cap) := by
 obtain ⟨v1, v2⟩ := view_get hl
 rcases Nat.eq_zero_or_pos len with rfl | hp
 ·have : view xs lo 0 = [] := by simp [view]
  rw [this]; exact .nil _ _
 ·obtain ⟨b, hbb, rfl⟩ := hA hp
  obtain ⟨h1, h2, h3, h4, h5, h6, h7⟩ := h.flat hs hn
  obtain ⟨vs, e, hh, hsz, hr⟩ := h7 b hbb
  have := RepD.sl (S := S) (w := w) (view xs lo len) b (lo * m.sz) sz cap (fun j i => vs.getD ((lo + j) * sz + i) undef) (by intro h; rw [h] at v1; simp at v1; omega) (hb b hbb) (by omega) (fun j el hj => ⟨h6 el (List.mem_of_getElem? (v2 j el hj)), fun i d hi => by
   obtain ⟨v, hv, _⟩ := hr (lo + j) el i d (v2 j el hj) hi
   unfold cellAt World.cell?
   simp only [hh, h1]
   rw [← Nat.add_mul]
   simp [hv]⟩) (fun j el i d hj hi => by
   obtain ⟨v, hv, hd⟩ := hr (lo + j) el i d (v2 j el hj) hi
   rw [if_neg (by omega)] at hd
   simpa [hv] using hd)
  rwa [v1] at this
section
variable {w w0 : World} {c : Cx} {os : List Obj} (h : Store w0 c os w) (sel : List Nat)
include h
theorem lent_row {o : Nat} (hsel : ¬ sel.contains o = true) {m : Meta} (hm : c.μ o = some m) {sz k c0 : Nat} {xs : List (List D)} (hx : os.getD o .dead = .row sz k c0 xs) :
  RepRow c.imm w m sz k c0 xs ∧ (∀ b, c.imm b → lentB c os sel b) ∧ (∀ b, m.blk = some b → lentB c os sel b) ∧ (∀ j b, j < k → m.nest j = some b → lentB c os sel b) := by
 obtain ⟨m', hm', hr⟩ := h.obj o _ hx (by simp)
 rw [hm] at hm'; cases hm'
 have hs : o ∉ sel := by simpa using hsel
 exact ⟨hr, fun b hb => .inr (.inl hb), fun b hb => .inr (.inr ⟨o, none, hs, m, hm, by rw [hx]; exact hb⟩), fun j b hj hb => .inr (.inr ⟨o, some j, hs, m, hm, by rw [hx]; exact ⟨hj, hb⟩⟩)⟩
theorem lent_frz {o : Nat} {m : Meta} (hm : c.μ o = some m) {sz : Nat} {xs : List (List D)} (hx : os.getD o .dead = .frz sz xs) :
  RepRow c.imm w m sz 0 sz xs ∧ (∀ b, c.imm b → lentB c os sel b) ∧ (∀ b, m.blk = some b → lentB c os sel b) ∧ (∀ j b, j < 0 → m.nest j = some b → lentB c os sel b) := by
 obtain ⟨m', hm', hr⟩ := h.obj o _ hx (by simp)
 rw [hm] at hm'; cases hm'
 exact ⟨hr.1, fun b hb => .inr (.inl hb), fun b hb => .inr (.inl (hr.2 b hb)), fun j b hj _ => absurd hj (Nat.not_lt_zero j)⟩
theorem lendD_rep {a : AV} {v : Value} (hr : RepAV c w a v) {d : D} (hl : lendD os sel a = some d) : RepD (lentB c os sel) w d v := by
 have top : ∀ {a : AV}, RepAV c w a v → (if a.one then some D.top else none) = some d → RepD (lentB c os sel) w d v := by
  intro a hr hl
  split at hl
  ·rename_i h1; cases hl; exact .top _ (one_rep hr h1)
  ·cases hl
 cases a
 case int => cases hr; simp only [lendD] at hl; cases hl; exact .int _ _
 case bool => cases hr; simp only [lendD] at hl; cases hl; exact .bool _
 case str => cases hr; simp only [lendD] at hl; cases hl; exact .str _
 case nils => cases hr; simp only [lendD] at hl; cases hl; exact .nil _ _
 case sl m xs =>
  simp only [lendD] at hl; cases hl
  cases hr with
  | sl _ _ _ hr =>
  refine hr.sub (fun b hb => ?_)
  cases m
  ·exact .inl hb
  ·exact .inr (.inl hb)
 case hw o =>
  cases hr with
  | hw _ m hm =>
  simp only [lendD] at hl
  split at hl
  ·cases hl
  ·rename_i hs
   split at hl
   ·rename_i hx; cases hl
    obtain ⟨h1, h2, h3, h4⟩ := lent_row h sel hs hm hx
    exact h1.toD h2 h3 h4
   ·rename_i hx; cases hl
    obtain ⟨h1, h2, h3, h4⟩ := lent_frz h sel hm hx
    exact h1.toD h2 h3 h4
   ·cases hl
 case hs o lo len =>
  cases hr with
  | hs _ _ _ A cap m hm hc hA =>
  simp only [lendD] at hl
  split at hl
  ·cases hl
  ·rename_i hs
   split at hl
   ·rename_i hx
    split at hl
    ·rename_i hll; cases hl
     obtain ⟨h1, h2, h3, h4⟩ := lent_row h sel hs hm hx
     exact row_view h1 h2 h3 h4 hA hll hc
    ·cases hl
   ·rename_i hx
    split at hl
    ·rename_i hll; cases hl
     obtain ⟨h1, h2, h3, h4⟩ := lent_frz h sel hm hx
     exact row_view h1 h2 h3 h4 hA hll hc
    ·cases hl
   ·cases hl
 all_goals (simp only [lendD] at hl; exact top hr hl)
theorem lendDs_rep : ∀ {cs : List AV} {vs : List Value} (hr : RepAVs c w cs vs) {ds : List D} (hl : lendDs os sel cs = some ds), ∀ (i : Nat) (d : D), ds[i]? = some d → ∃ v, vs[i]? = some v ∧ RepD (lentB c os sel) w d v
 | [], _, .nil, ds, hl => by simp [lendDs] at hl; subst hl; intro i d hd; simp at hd
 | x :: cs, _, .cons _ v _ vs h1 h2, ds, hl => by
  unfold lendDs at hl
  split at hl
  ·cases hl
  ·rename_i d hd
   split at hl
   ·cases hl
   ·rename_i ds' hds
    cases hl
    intro i d' hi
    cases i with
    | zero => simp at hi; subst hi; exact ⟨v, by simp, lendD_rep h sel h1 hd⟩
    | succ i => simpa using lendDs_rep h2 hds i d' (by simpa using hi)
theorem lendDs_len : ∀ {cs : List AV} {ds : List D}, lendDs os sel cs = some ds → ds.length = cs.length
 | [], ds, hl => by simp [lendDs] at hl; subst hl; rfl
 | x :: cs, ds, hl => by
  unfold lendDs at hl
  split at hl
  ·cases hl
  ·split at hl
   ·cases hl
   ·rename_i ds' hds
    cases hl
    simp [lendDs_len hds]
mutual
theorem lend_rep : ∀ {a : AV} {v : Value}, RepAV c w a v → ∀ {a' : AV}, Gn.lend os sel a = some a' → RepAV (c.lend os sel) w a' v
 | _, _, .int k n, a', hl => by simp only [Gn.lend] at hl; cases hl; exact .int k n
 | _, _, .bool b, a', hl => by simp only [Gn.lend] at hl; cases hl; exact .bool b
 | _, _, .str s, a', hl => by simp only [Gn.lend] at hl; cases hl; exact .str s
 | _, _, .sl m xs v hr, a', hl => by
  simp only [Gn.lend] at hl; cases hl
  refine .sl .br xs v (hr.sub (fun b hb => ?_))
  cases m
  ·exact .inl hb
  ·exact .inr (.inl hb)
 | _, _, .nils, a', hl => by simp only [Gn.lend] at hl; cases hl; exact .sl .br [] _ (.nil _ _)
 | _, _, .ep m cs off b o hb hr, a', hl => by
  simp only [Gn.lend] at hl; cases hl
  have hs : ∀ b, c.set m b → lentB c os sel b := by
   intro b hb
   cases m
   ·exact .inl hb
   ·exact .inr (.inl hb)
  exact .ep .br cs off b o (hs b hb) fun i d hd => let ⟨u, hu, hru⟩ := hr i d hd; ⟨u, hu, hru.sub hs⟩
 | _, _, .ptr o off b m hm hb, a', hl => by
  simp only [Gn.lend] at hl
  split at hl
  ·cases hl
  ·rename_i hs
   split at hl
   ·rename_i cs hx
    split at hl
    ·rename_i ds hds
     cases hl
     obtain ⟨m', hm', b', vs, e, hb', hh, hrs⟩ := h.obj o _ hx (by simp)
     rw [hm] at hm'; cases hm'
     rw [hb] at hb'; cases hb'
     have := RepAV.ep (c := c.lend os sel) (w := w) .br ds off b 0 (.inr (.inr ⟨o, none, by simpa using hs, m, hm, by rw [hx]; exact hb⟩)) (fun i d hd => by
      obtain ⟨v, hv, hd⟩ := lendDs_rep h sel hrs hds i d hd
      refine ⟨v, ?_, hd⟩
      unfold cellAt World.cell?
      simp only [hh]
      simpa using hv)
     simpa using this
    ·cases hl
   ·cases hl
 | _, _, .rp o j q b m hm hb, a', hl => by
  simp only [Gn.lend] at hl
  split at hl
  ·cases hl
  ·rename_i hs
   have go : ∀ {sz k c0 : Nat} {xs : List (List D)} {el : List D}, (RepRow c.imm w m sz k c0 xs ∧ (∀ b, c.imm b → lentB c os sel b) ∧ (∀ b, m.blk = some b → lentB c os sel b) ∧ (∀ j b, j < k → m.nest j = some b → lentB c os sel b)) → xs[j]? = some el → RepAV (c.lend os sel) w (.ep .br el q) (.pointer (some ⟨b, j * m.sz + q, none⟩)) := by
    intro sz k c0 xs el hh hel
    obtain ⟨h1, h2, h3, h4⟩ := hh
    obtain ⟨r1, r2, r3, r4, r5, r6, r7⟩ := h1.flat h2 h4
    obtain ⟨vs, e, hh, hsz, hr⟩ := r7 b hb
    refine .ep .br el q b (j * m.sz) (h3 b hb) fun i d hd => ?_
    obtain ⟨u, hu, hru⟩ := hr j el i d hel hd
    rw [if_neg (by omega)] at hru
    refine ⟨u, ?_, hru⟩
    unfold cellAt World.cell?
    simp only [hh, r1]
    simpa using hu
   split at hl
   ·rename_i hx
    split at hl
    ·rename_i el hel; cases hl
     exact go (lent_row h sel hs hm hx) hel
    ·cases hl
   ·rename_i hx
    split at hl
    ·rename_i el hel; cases hl
     exact go (lent_frz h sel hm hx) hel
    ·cases hl
   ·cases hl
 | _, _, .nilp, a', hl => by simp only [Gn.lend] at hl; cases hl; exact .nilp
 | _, _, .hw o m hm, a', hl => by
  simp only [Gn.lend] at hl
  split at hl
  ·cases hl
  ·rename_i hs
   split at hl
   ·rename_i hx; cases hl
    obtain ⟨h1, h2, h3, h4⟩ := lent_row h sel hs hm hx
    exact .sl .br _ _ (h1.toD h2 h3 h4)
   ·rename_i hx; cases hl
    obtain ⟨h1, h2, h3, h4⟩ := lent_frz h sel hm hx
    exact .sl .br _ _ (h1.toD h2 h3 h4)
   ·cases hl
 | _, _, .hs o lo len A cap m hm hc hA, a', hl => by
  simp only [Gn.lend] at hl
  split at hl
  ·cases hl
  ·rename_i hs
   split at hl
   ·rename_i hx
    split at hl
    ·rename_i hll; cases hl
     obtain ⟨h1, h2, h3, h4⟩ := lent_row h sel hs hm hx
     exact .sl .br _ _ (row_view h1 h2 h3 h4 hA hll hc)
    ·cases hl
   ·rename_i hx
    split at hl
    ·rename_i hll; cases hl
     obtain ⟨h1, h2, h3, h4⟩ := lent_frz h sel hm hx
     exact .sl .br _ _ (row_view h1 h2 h3 h4 hA hll hc)
    ·cases hl
   ·rename_i cs hx
    split at hl
    ·rename_i hc2
     split at hl
     ·rename_i ds hds
      cases hl
      obtain ⟨rfl, hdiv⟩ := hc2
      have hdl := lendDs_len h sel hds
      obtain ⟨hcl1, hcg⟩ := chunks_get (cs.length / len) len ds (by rw [hdl, Nat.mul_comm, hdiv]; exact Nat.le_refl _)
      rcases Nat.eq_zero_or_pos len with h0 | hp
      ·subst h0; exact .sl .br _ _ (.nil _ _)
      ·obtain ⟨b, hbb, rfl⟩ := hA hp
       obtain ⟨m', hm', b', vs, e, hb', hh, hrs⟩ := h.obj o _ hx (by simp)
       rw [hm] at hm'; cases hm'
       rw [hbb] at hb'; cases hb'
       have hne : chunks (cs.length / len) len ds ≠ [] := by intro hn; rw [hn] at hcl1; simp at hcl1; omega
       have key : ∀ j el, (chunks (cs.length / len) len ds)[j]? = some el → ∀ i d, el[i]? = some d → ∃ v, vs[j * (cs.length / len) + i]? = some v ∧ RepD (lentB c os sel) w d v := by
        intro j el hj i d hi
        obtain ⟨g1, g2⟩ := hcg j el hj
        have hil : i < cs.length / len := by rw [← g1]; exact (List.getElem?_eq_some_iff.1 hi).1
        rw [g2 i hil] at hi
        exact lendDs_rep h sel hrs hds _ d hi
       have := RepD.sl (S := lentB c os sel) (w := w) (chunks (cs.length / len) len ds) b (0 * m.sz) (cs.length / len) cap (fun j i => vs.getD (j * (cs.length / len) + i) undef) hne (.inr (.inr ⟨o, none, by simpa using hs, m, hm, by rw [hx]; exact hbb⟩)) (by rw [hcl1]; exact hc)
        (fun j el hj => ⟨(hcg j el hj).1, fun i d hi => by
         obtain ⟨v, hv, _⟩ := key j el hj i d hi
         unfold cellAt World.cell?
         simp only [hh, Nat.zero_mul, Nat.zero_add]
         simp [hv]⟩) (fun j el i d hj hi => by
         obtain ⟨v, hv, hd⟩ := key j el hj i d hi
         simpa [hv] using hd)
       rw [hcl1] at this
       exact .sl .br _ _ this
     ·cases hl
    ·cases hl
   ·cases hl
 | _, _, .sub o j len A cap m hm hc hA, a', hl => by
  simp only [Gn.lend] at hl
  split at hl
  ·cases hl
  ·rename_i hs
   split at hl
   ·rename_i sz k c0 xs hx
    split at hl
    ·rename_i el hel
     split at hl
     ·rename_i ys hys
      split at hl
      ·rename_i hlen
       cases hl
       obtain ⟨rfl, hjk⟩ := hlen
       obtain ⟨h1, h2, h3, h4⟩ := lent_row h sel hs hm hx
       rcases Nat.eq_zero_or_pos ys.length with h0 | hp
       ·have : ys = [] := List.eq_nil_of_length_eq_zero h0
        subst this
        exact .sl .br _ _ (.nil _ _)
       ·obtain ⟨b, hnb, rfl⟩ := hA hp
        obtain ⟨r1, r2, r3, r4, r5, r6, r7⟩ := h1
        cases hbk : m.blk with
        | none =>
         have := r5 hbk
         have := (List.getElem?_eq_some_iff.1 hel).1
         omega
        | some b0 =>
         obtain ⟨vs, e, hh, hsz, hr⟩ := r7 b0 hbk
         obtain ⟨v, hv, hd⟩ := hr j el c0 _ hel hys
         rw [if_pos ⟨hjk, rfl⟩] at hd
         obtain ⟨ys', hys', hd⟩ := hd
         cases hys'
         rcases hd with ⟨_, h0, _⟩ | ⟨b1, cap1, vs1, e1, hn1, _, hh1, _, hl1, hr1⟩
         ·subst h0; simp at hp
         ·rw [hnb] at hn1; cases hn1
          have : RepN c.imm w m j (.sl ys) (.slice (some ⟨b, 0, none⟩) ys.length cap) := ⟨ys, rfl, .inr ⟨b, cap, vs1, e1, hnb, rfl, hh1, hc, hl1, hr1⟩⟩
          exact .sl .br _ _ (this.toD h2 (fun b' hb' => h4 j b' hjk hb'))
      ·cases hl
     ·cases hl
    ·cases hl
   ·cases hl
 | _, _, .subp o j i b m hm hb, a', hl => by simp only [Gn.lend] at hl; cases hl
 | _, _, .fn f caps vs hr, a', hl => by
  simp only [Gn.lend] at hl
  split at hl
  ·rename_i l hll; cases hl; exact .fn f l vs (lendL_rep hr hll)
  ·cases hl
 | _, _, .agg cs vs hr, a', hl => by
  simp only [Gn.lend] at hl
  split at hl
  ·rename_i l hll; cases hl; exact .agg l vs (lendL_rep hr hll)
  ·cases hl
 | _, _, .tup cs vs hr, a', hl => by simp only [Gn.lend] at hl; cases hl
 | _, _, .un, a', hl => by simp only [Gn.lend] at hl; cases hl; exact .un
 | _, _, .top v, a', hl => by simp only [Gn.lend] at hl; cases hl
theorem lendL_rep : ∀ {aS : List AV} {vs : List Value}, RepAVs c w aS vs → ∀ {aS' : List AV}, Gn.lendL os sel aS = some aS' → RepAVs (c.lend os sel) w aS' vs
 | _, _, .nil, aS', hl => by simp only [Gn.lendL] at hl; cases hl; exact .nil
 | _, _, .cons a v aS vs h1 h2, aS', hl => by
  simp only [Gn.lendL] at hl
  split at hl
  ·cases hl
  ·rename_i d hd
   split at hl
   ·cases hl
   ·rename_i ds hds
    cases hl
    exact .cons _ _ _ _ (lend_rep h1 hd) (lendL_rep h2 hds)
end
end
end Go.Gn

namespace Go.Gn
open Go
structure Aft (w : World) (c : Cx) (n : Nat) (r : AV) (os' : List Obj) (v : Value) (w' : World) (c' : Cx) : Prop where
 st : Store w c' os' w'
 fix : c'.fix = c.fix
 oth : c'.oth = c.oth
 imm : ∀ b, c.imm b → c'.imm b
 μ : ∀ o, o < n → ∀ m, c.μ o = some m → ∃ m', c'.μ o = some m' ∧ m.le m'
 dom : ∀ q, c'.μ q ≠ none → q < os'.length
 old : ∀ q, q < n → c.μ q = none → c'.μ q = none
 kf : Keep c.fix w w'
 ki : Keep c.imm w w'
 ko : Keep c.oth w w'
 len : n ≤ os'.length
 val : RepAV c' w' r v
 nbr : r.noBr = true
 nbo : ∀ q, (os'.getD q .dead).noBr = true
theorem reach_nodup (os : List Obj) : ∀ (n : Nat) (todo done : List Nat), done.Nodup → (reach os n todo done).Nodup
 | 0, _, _, h => h
 | n + 1, [], done, h => h
 | n + 1, o :: todo, done, h => by
  unfold reach
  split
  ·exact reach_nodup os n todo done h
  ·rename_i hc
   refine reach_nodup os n _ _ (List.nodup_append.2 ⟨h, by simp, ?_⟩)
   intro a ha b hb hab
   simp at hb
   subst hb; subst hab
   exact hc (by simpa using ha)
theorem posOf_shift : ∀ (l : List Nat) (o i : Nat), posOf l o (i + 1) = (posOf l o i).map (· + 1)
 | [], o, i => rfl
 | x :: l, o, i => by
  unfold posOf
  split
  ·rfl
  ·exact posOf_shift l o (i + 1)
theorem posOf_none {l : List Nat} {o : Nat} : ∀ {i : Nat}, posOf l o i = none ↔ o ∉ l := by
 induction l with
 | nil => intro i; simp [posOf]
 | cons x l ih =>
  intro i
  unfold posOf
  split
  ·rename_i hx; simp at hx; simp [hx]
  ·rename_i hx
   simp at hx
   rw [ih]
   simp [Ne.symm hx]
theorem putBack_len (sel : List Nat) : ∀ (news os : List Obj), (putBack sel news os).length = os.length := by
 induction sel with
 | nil => intro news os; simp [putBack]
 | cons s sel ih =>
  intro news os
  cases news with
  | nil => simp [putBack]
  | cons x news =>
   have := ih news (os.set s x)
   simp only [putBack, List.zip_cons_cons, List.foldl_cons] at this ⊢
   rw [this]; simp
theorem posOf_cons (x : Nat) (l : List Nat) (o i : Nat) : posOf (x :: l) o i = if x == o then some i else posOf l o (i + 1) := by rw [posOf]
theorem putBack_getD : ∀ (sel : List Nat) (news os : List Obj) (hnd : sel.Nodup) (hlt : ∀ o ∈ sel, o < os.length) (hl : sel.length ≤ news.length) (q : Nat),
  (putBack sel news os).getD q .dead = match posOf sel q with | some i => news.getD i .dead | none => os.getD q .dead
 | [], news, os, _, _, _, q => by simp [putBack, posOf]
 | s :: sel, [], os, _, _, hl, q => by simp at hl
 | s :: sel, x :: news, os, hnd, hlt, hl, q => by
  have ih := putBack_getD sel news (os.set s x) (List.nodup_cons.1 hnd).2 (fun o ho => by simpa using hlt o (by simp [ho])) (by simpa using hl) q
  simp only [putBack, List.zip_cons_cons, List.foldl_cons] at ih ⊢
  rw [ih, posOf_cons]
  by_cases hs : s = q
  ·subst hs
   have : posOf sel s 0 = none := posOf_none.2 (List.nodup_cons.1 hnd).1
   rw [this]
   simp [getD_set, hlt s (by simp)]
  ·have hs' : (s == q) = false := by simpa using hs
   rw [if_neg (by simp [hs]), posOf_shift sel q 0]
   cases posOf sel q 0 with
   | none => simp only [Option.map_none]; rw [getD_set, if_neg (fun h => hs h.1)]
   | some i => simp
def kap (sel : List Nat) (nb : Nat) (q : Nat) : Option Nat :=
 match posOf sel q with
 | some i => some i
 | none => if nb ≤ q then some (sel.length + (q - nb)) else none
theorem posOf_lt {l : List Nat} {o p : Nat} (h : posOf l o = some p) : p < l.length ∧ l[p]? = some o := by
 obtain ⟨j, h1, h2⟩ := posOf_get l o 0 p h
 have : p = j := by omega
 subst this
 exact ⟨(List.getElem?_eq_some_iff.1 h2).1, h2⟩
theorem posOf_of_get {l : List Nat} (hnd : l.Nodup) {o p : Nat} (h : l[p]? = some o) : posOf l o = some p := by
 cases hp : posOf l o with
 | none => exact absurd (List.mem_of_getElem? h) (posOf_none.1 hp)
 | some p' => rw [nodup_inj hnd (posOf_lt hp).2 h]
theorem kap_inj {sel : List Nat} {nb q q' i : Nat} (h : kap sel nb q = some i) (h' : kap sel nb q' = some i) : q = q' := by
 unfold kap at h h'
 split at h
 ·rename_i p hp
  cases h
  obtain ⟨h1, h2⟩ := posOf_lt hp
  split at h'
  ·rename_i p' hp'
   cases h'
   obtain ⟨h3, h4⟩ := posOf_lt hp'
   rw [h2] at h4; cases h4; rfl
  ·split at h'
   ·cases h'; omega
   ·cases h'
 ·split at h
  ·cases h
   split at h'
   ·rename_i p' hp'
    cases h'
    obtain ⟨h3, h4⟩ := posOf_lt hp'
    omega
   ·split at h'
    ·simp only [Option.some.injEq] at h'; omega
    ·cases h'
  ·cases h
theorem kap_back {sel : List Nat} (hnd : sel.Nodup) {nb : Nat} (hlt : ∀ o ∈ sel, o < nb) {i q : Nat} (h : backId sel nb sel.length i = some q) : kap sel nb q = some i := by
 unfold backId at h
 split at h
 ·rename_i hi
  unfold kap
  rw [posOf_of_get hnd h]
 ·rename_i hi
  cases h
  unfold kap
  have : posOf sel (nb + (i - sel.length)) = none := posOf_none.2 (fun hm => by have := hlt _ hm; omega)
  rw [this]
  simp only
  rw [if_pos (by omega)]
  congr 1; omega
theorem demote_ren (ρ : Nat → Option Nat) (x : Obj) : (x.ren ρ).demote = (x.demote).ren ρ := by cases x <;> rfl
theorem getD_map_demote (os : List Obj) (q : Nat) : (os.map Obj.demote).getD q .dead = (os.getD q .dead).demote := by
 simp only [List.getD_eq_getElem?_getD, List.getElem?_map]
 cases os[q]? <;> rfl
theorem Store.demote {w0 : World} {c : Cx} {os : List Obj} {w : World} (h : Store w0 c os w) :
  Store w0 { c with imm := fun b => c.imm b ∨ ∃ o j, Owns c.μ os o (some j) b } (os.map Obj.demote) w ∧ Ext c w { c with imm := fun b => c.imm b ∨ ∃ o j, Owns c.μ os o (some j) b } w := by
 have own : ∀ o l b, Owns c.μ (os.map Obj.demote) o l b → l = none ∧ Owns c.μ os o none b := by
  rintro o l b ⟨m, hm, ho⟩
  rw [getD_map_demote] at ho
  cases hx : os.getD o .dead with
  | box cs => rw [hx] at ho; cases l <;> simp only [Obj.demote] at ho; exact ⟨rfl, m, hm, by rw [hx]; exact ho⟩
  | row sz k c0 xs =>
   rw [hx] at ho
   cases l with
   | none => exact ⟨rfl, m, hm, by rw [hx]; exact ho⟩
   | some j => exact absurd ho.1 (Nat.not_lt_zero j)
  | frz sz xs => rw [hx] at ho; cases l <;> exact ho.elim
  | dead => rw [hx] at ho; cases l <;> exact ho.elim
 refine h.step (fun _ => False) ⟨rfl, rfl⟩ (fun _ hb => .inl hb) (fun _ hb => hb.imp id (fun ⟨o, j, h⟩ => ⟨o, some j, h⟩)) (fun _ m hm => ⟨m, hm, m.le_refl⟩) (Nat.le_refl _) ⟨rfl, rfl, rfl⟩ (fun _ _ _ => rfl) (fun _ hb => hb.elim) (fun e q y hy hne => ?_) (fun o l o' l' b h1 h2 => ?_) (fun o l b h1 => ?_) (fun b hb => ?_) h.fixlt'
 ·rw [getD_map_demote] at hy
  cases hx : os.getD q .dead with
  | box cs => rw [hx] at hy; exact .inr ⟨hy, rfl, fun _ _ _ => id⟩
  | row sz k c0 xs =>
   rw [hx] at hy
   left
   obtain ⟨m, hm, hr⟩ := h.obj q _ hx (by simp)
   subst hy
   exact ⟨m, hm, RepRow.flat hr (fun b hb => .inl hb) (fun j b hj hb => .inr ⟨q, j, m, hm, by rw [hx]; exact ⟨hj, hb⟩⟩)⟩
  | frz sz xs => rw [hx] at hy; exact .inr ⟨hy, rfl, fun _ _ _ => id⟩
  | dead => rw [hx] at hy; exact absurd hy.symm hne
 ·obtain ⟨rfl, h3⟩ := own _ _ _ h1
  obtain ⟨rfl, h4⟩ := own _ _ _ h2
  exact ⟨(h.uniq _ _ _ _ _ h3 h4).1, rfl⟩
 ·obtain ⟨rfl, h3⟩ := own _ _ _ h1
  obtain ⟨h4, h5, h6⟩ := h.lt _ _ _ h3
  refine ⟨h4, fun hb => ?_, h6⟩
  rcases hb with hb | ⟨o', j, hb⟩
  ·exact h5 hb
  ·have := (h.uniq _ _ _ _ _ h3 hb).2
   cases this
 ·rcases hb with hb | ⟨o', j, hb⟩
  ·exact h.immlt b hb
  ·exact (h.lt _ _ _ hb).1
theorem Aft.demote {w : World} {c : Cx} {n : Nat} {r : AV} {os' : List Obj} {v : Value} {w' : World} {c' : Cx} (h : Aft w c n r os' v w' c') : ∃ c2, Aft w c n r (os'.map Obj.demote) v w' c2 := by
 obtain ⟨h1, h2⟩ := h.st.demote
 refine ⟨_, h1, h.fix, h.oth, fun b hb => .inl (h.imm b hb), h.μ, fun q hq => by simpa using h.dom q hq, h.old, h.kf, h.ki, h.ko, by simpa using h.len, h.val.mono h2, h.nbr, fun q => ?_⟩
 rw [getD_map_demote]
 have := h.nbo q
 generalize os'.getD q .dead = x at this
 cases x <;> first | exact this | rfl
end Go.Gn

namespace Go.Gn
open Go
theorem back {w0 w w' : World} {c c1 : Cx} {os os1 fin : List Obj} {sel : List Nat} {nb : Nat} {r : AV} {v : Value} (h : Store w0 c os w) (hdom : ∀ q, c.μ q ≠ none → q < nb) (hln : os.length ≤ nb) (hnd : sel.Nodup) (hlt : ∀ o ∈ sel, o < os.length) (ha : Aft w (c.lend os sel) sel.length r os1 v w' c1)
  (hfin : ∀ q, fin.getD q .dead = match kap sel nb q with | some i => (os1.getD i .dead).ren (backId sel nb sel.length) | none => os.getD q .dead) (hflen : fin.length = nb + (os1.length - sel.length)) :
  ∃ c', Store w0 c' fin w' ∧ Ext c w c' w' ∧ RepAV c' w' (r.ren (backId sel nb sel.length)) v ∧ (∀ q, c'.μ q ≠ none → c.μ q ≠ none ∨ (nb ≤ q ∧ q < fin.length)) := by
 have hltn : ∀ o ∈ sel, o < nb := fun o ho => Nat.lt_of_lt_of_le (hlt o ho) hln
 let c' : Cx := { fix := c.fix, imm := c1.imm, oth := c.oth, μ := fun q => match kap sel nb q with | some i => c1.μ i | none => c.μ q }
 have hkap : ∀ q, q < nb → ∀ i, kap sel nb q = some i → posOf sel q = some i := by
  intro q hq i hk
  unfold kap at hk
  split at hk
  ·rename_i p hp; cases hk; exact hp
  ·rw [if_neg (by omega)] at hk; cases hk
 have hkn : ∀ q, kap sel nb q = none → q ∉ sel := by
  intro q hk
  unfold kap at hk
  split at hk
  ·cases hk
  ·rename_i hp; exact posOf_none.1 hp
 have rn : Rn true c1 (backId sel nb sel.length) c' := ⟨fun h => by (cases h), fun _ h => h, fun o p m hp hm => by
  have := kap_back hnd hltn hp
  exact ⟨m, by simp only [c', this]; exact hm, m.le_refl⟩⟩
 have ext : Ext c w c' w' := by
  refine ⟨rfl, rfl, ha.imm, fun o m hm => ?_, fun b hb => ha.kf b (.inl hb), ha.ki, fun b hb => ha.ko b (.inl hb)⟩
  have hon : o < nb := hdom o (by rw [hm]; simp)
  cases hk : kap sel nb o with
  | none => exact ⟨m, by simp only [c', hk]; exact hm, m.le_refl⟩
  | some i =>
   obtain ⟨h1, h2⟩ := posOf_lt (hkap o hon i hk)
   have := ha.μ i h1 m (by simp [Cx.lend, Cx.pick, h2, hm])
   simp only [c', hk]
   exact this
 have key : ∀ q l b, Owns c'.μ fin q l b → (∃ i, kap sel nb q = some i ∧ Owns c1.μ os1 i l b) ∨ (kap sel nb q = none ∧ Owns c.μ os q l b) := by
  intro q l b ho
  have hf := hfin q
  cases hk : kap sel nb q with
  | none =>
   rw [hk] at hf
   simp only at hf
   right
   obtain ⟨m, hm, ho⟩ := ho
   simp only [c', hk] at hm
   exact ⟨rfl, m, hm, by rw [← hf]; exact ho⟩
  | some i =>
   rw [hk] at hf
   left
   refine ⟨i, rfl, owns_like ho ?_ (by simp only [c', hk])⟩
   rw [hf]
   exact like_ren _ _
 have oldB : ∀ q l b, kap sel nb q = none → Owns c.μ os q l b → c1.fix b ∧ c1.oth b := by
  intro q l b hk ho
  rw [ha.fix, ha.oth]
  exact ⟨.inr (.inr ⟨q, l, hkn q hk, ho⟩), .inr ⟨q, l, hkn q hk, ho⟩⟩
 have keepO : ∀ q l b, kap sel nb q = none → Owns c.μ os q l b → w'.heap[b]? = w.heap[b]? := fun q l b hk ho => ha.kf b (.inr (.inr ⟨q, l, hkn q hk, ho⟩))
 refine ⟨c', ⟨fun q x hx hne => ?_, fun q l q' l' b h1 h2 => ?_, fun q l b h1 => ?_, ha.st.immlt, h.fixlt, fun b hb => Nat.lt_of_lt_of_le (h.othlt b hb) ha.st.grow, fun b hi ho => ha.st.sep b hi (by rw [ha.oth]; exact .inl ho), h.frame.trans ext.kf, Nat.le_trans h.grow ha.st.grow, ?_⟩, ext, ha.val.ren rn (fun _ => ha.nbr), fun q hq => ?_⟩
 ·have hf := hfin q
  rw [hx] at hf
  cases hk : kap sel nb q with
  | none =>
   rw [hk] at hf
   simp only at hf
   obtain ⟨m, hm, hr⟩ := h.obj q x hf.symm hne
   refine ⟨m, by simp only [c', hk]; exact hm, hr.mono ext (fun b hb => ?_) (fun sz k c0 xs hxx j b hj hn => ?_)⟩
   ·cases x with
    | box cs => exact keepO q none b hk ⟨m, hm, by rw [← hf]; exact hb⟩
    | row sz k c0 xs => exact keepO q none b hk ⟨m, hm, by rw [← hf]; exact hb⟩
    | frz sz xs => exact ext.ki b (hr.2 b hb)
    | dead => exact absurd rfl hne
   ·subst hxx
    exact keepO q (some j) b hk ⟨m, hm, by rw [← hf]; exact ⟨hj, hn⟩⟩
  | some i =>
   rw [hk] at hf
   simp only at hf
   have hne' : os1.getD i .dead ≠ .dead := by
    intro hd
    rw [hd] at hf
    exact hne hf
   obtain ⟨m, hm, hr⟩ := ha.st.obj i _ rfl hne'
   refine ⟨m, by simp only [c', hk]; exact hm, ?_⟩
   rw [hf]
   exact hr.ren rn (fun _ => ha.nbo i)
 ·rcases key _ _ _ h1 with ⟨i, hk, h3⟩ | ⟨hk, h3⟩ <;> rcases key _ _ _ h2 with ⟨i', hk', h4⟩ | ⟨hk', h4⟩
  ·obtain ⟨rfl, rfl⟩ := ha.st.uniq _ _ _ _ _ h3 h4
   exact ⟨kap_inj hk hk', rfl⟩
  ·exact absurd (oldB _ _ _ hk' h4).1 (ha.st.lt _ _ _ h3).2.2.1
  ·exact absurd (oldB _ _ _ hk h3).1 (ha.st.lt _ _ _ h4).2.2.1
  ·exact h.uniq _ _ _ _ _ h3 h4
 ·rcases key _ _ _ h1 with ⟨i, hk, h3⟩ | ⟨hk, h3⟩
  ·obtain ⟨h5, h6, h7, h8⟩ := ha.st.lt _ _ _ h3
   rw [ha.fix] at h7
   rw [ha.oth] at h8
   exact ⟨h5, h6, fun hb => h7 (.inl hb), fun hb => h8 (.inl hb)⟩
  ·obtain ⟨h5, h6, h7, h8⟩ := h.lt _ _ _ h3
   exact ⟨Nat.lt_of_lt_of_le h5 ha.st.grow, fun hi => ha.st.sep b hi (oldB _ _ _ hk h3).2, h7, h8⟩
 ·exact ⟨ha.st.same.1.trans h.same.1, ha.st.same.2.1.trans h.same.2.1, ha.st.same.2.2.trans h.same.2.2⟩
 ·cases hk : kap sel nb q with
  | none => left; simp only [c', hk] at hq; exact hq
  | some i =>
   simp only [c', hk] at hq
   have hi := ha.dom i hq
   by_cases hqn : q < nb
   ·left
    obtain ⟨h1, h2⟩ := posOf_lt (hkap q hqn i hk)
    intro hn
    exact hq (ha.old i h1 (by simp [Cx.lend, Cx.pick, h2, hn]))
   ·right
    refine ⟨by omega, ?_⟩
    unfold kap at hk
    split at hk
    ·rename_i p hp
     obtain ⟨h1, h2⟩ := posOf_lt hp
     exact absurd (hltn q (List.mem_of_getElem? h2)) hqn
    ·split at hk
     ·cases hk; omega
     ·cases hk
end Go.Gn

namespace Go.Gn
open Go
def retB (Q : Value → World → Prop) : Ending → World → Prop
 | .returned v, w => Q v w
 | _, _ => False
def Good (P : Program) (call : CallF) (f : Nat) (inl : Bool) : Prop :=
 if inl then ∀ args os r os', call f args os = some (r, os') → ∀ w0 c w vals, Store w0 c os w → (∀ q, c.μ q ≠ none → q < os.length) → RepAVs c w args vals →
   Calls P f vals.toArray w (retB fun v w' => ∃ c', Store w0 c' os' w' ∧ Ext c w c' w' ∧ RepAV c' w' r v ∧ ∀ q, c'.μ q ≠ none → c.μ q ≠ none ∨ (os.length ≤ q ∧ q < os'.length))
 else ∀ args os r os', call f args os = some (r, os') → ∀ c w vals, Store w c os w → (∀ q, c.μ q ≠ none → q < os.length) → RepAVs c w args vals →
   Calls P f vals.toArray w (retB fun v w' => ∃ c', Aft w c os.length r os' v w' c')
theorem rn_lend (c : Cx) (os : List Obj) (sel : List Nat) : Rn false c (posOf sel) (c.lend os sel) :=
 ⟨fun _ b h => .inl h, fun _ h => h, (rn_pick c sel).μ⟩
theorem pass_rep {w0 w : World} {c : Cx} {os : List Obj} (h : Store w0 c os w) (sel : List Nat) : ∀ {bs : List Bool} {aS : List AV} {vs : List Value}, RepAVs c w aS vs → ∀ {aS' : List AV}, passArgs os sel bs aS = some aS' → RepAVs (c.lend os sel) w aS' vs
 | bs, _, _, .nil, aS', hl => by simp only [passArgs] at hl; cases hl; exact .nil
 | bs, _, _, .cons a v aS vs h1 h2, aS', hl => by
  simp only [passArgs] at hl
  split at hl
  ·cases hl
  ·rename_i v' hv'
   split at hl
   ·cases hl
   ·rename_i l hll
    cases hl
    refine .cons _ _ _ _ ?_ (pass_rep h sel h2 hll)
    split at hv'
    ·split at hv'
     ·cases hv'; exact h1.ren (rn_lend c os sel) (fun h => by cases h)
     ·cases hv'
    ·exact lend_rep h sel h1 hv'
theorem drop_getD (l : List Obj) (n i : Nat) : (l.drop n).getD i .dead = l.getD (n + i) .dead := by
 simp [List.getD_eq_getElem?_getD]
theorem fin_getD {os os2 : List Obj} {sel : List Nat} {nb : Nat} (hnd : sel.Nodup) (hlt : ∀ o ∈ sel, o < os.length) (hln : os.length ≤ nb) (hl : sel.length ≤ os2.length) (q : Nat) :
  (putBack sel os2 os ++ List.replicate (nb - (putBack sel os2 os).length) Obj.dead ++ os2.drop sel.length).getD q .dead = match kap sel nb q with | some i => os2.getD i .dead | none => os.getD q .dead := by
 have hpl := putBack_len sel os2 os
 by_cases h1 : q < nb
 ·have e1 : (putBack sel os2 os ++ List.replicate (nb - (putBack sel os2 os).length) Obj.dead ++ os2.drop sel.length).getD q .dead = (putBack sel os2 os).getD q .dead := by
   rw [List.getD_eq_getElem?_getD, List.getElem?_append_left (by simp; omega), ← List.getD_eq_getElem?_getD, getD_pad]
  rw [e1, putBack_getD sel os2 os hnd hlt hl]
  unfold kap
  cases posOf sel q with
  | some i => rfl
  | none => simp only; rw [if_neg (by omega)]
 ·have hp : posOf sel q = none := posOf_none.2 (fun hm => by have := hlt q hm; omega)
  have hk : kap sel nb q = some (sel.length + (q - nb)) := by
   unfold kap; rw [hp]; simp only; rw [if_pos (by omega)]
  rw [hk, List.getD_eq_getElem?_getD, List.getElem?_append_right (by simp; omega)]
  have e2 : q - (putBack sel os2 os ++ List.replicate (nb - (putBack sel os2 os).length) Obj.dead).length = q - nb := by simp; omega
  rw [e2, ← List.getD_eq_getElem?_getD, drop_getD]
theorem getD_map_ren' (ρ : Nat → Option Nat) (os : List Obj) (i : Nat) : (os.map (Obj.ren ρ)).getD i .dead = (os.getD i .dead).ren ρ := by
 simp only [List.getD_eq_getElem?_getD, List.getElem?_map]
 cases os[i]? <;> rfl
theorem local_sound {P : Program} {call : CallF} {cf : CF} {demC : Bool} {f : Nat} {args : List AV} {vals : List Value} {nb : Nat} {os fin : List Obj} {r : AV} {w0 w : World} {c : Cx} (hg : Good P call f false) (hl : localCall call cf demC f args nb os = some (r, fin)) (h : Store w0 c os w) (hdom : ∀ q, c.μ q ≠ none → q < nb) (hln : os.length ≤ nb)
  (ha : RepAVs c w args vals) : Calls P f vals.toArray w (retB fun v w' => ∃ c', Store w0 c' fin w' ∧ Ext c w c' w' ∧ RepAV c' w' r v ∧ ∀ q, c'.μ q ≠ none → c.μ q ≠ none ∨ (nb ≤ q ∧ q < fin.length)) := by
 unfold localCall at hl
 generalize hsel : reach os 40 (refIds cf.byRef args) [] = sel at hl
 have hnd : sel.Nodup := by rw [← hsel]; exact reach_nodup _ _ _ _ (by simp)
 simp only at hl
 split at hl
 ·rename_i hck
  simp only [Bool.and_eq_true, List.all_eq_true] at hck
  have hlt : ∀ o ∈ sel, o < os.length := fun o ho => by have := hck.2 o ho; rwa [Nat.blt_eq] at this
  split at hl
  ·cases hl
  ·rename_i args' hargs
   split at hl
   ·cases hl
   ·rename_i r' os1 hcall
    have hlen : (pickOs sel os).length = sel.length := by simp [pickOs]
    have hc := hg _ _ _ _ hcall (c.lend os sel) w vals (h.lend sel hnd) (fun q hq => by
     rw [hlen]
     rcases Nat.lt_or_ge q sel.length with h | h
     ·exact h
     ·exfalso; apply hq; simp [Cx.lend, Cx.pick, List.getElem?_eq_none h]) (pass_rep h sel ha hargs)
    refine Calls.mono hc (fun e w' he => ?_)
    cases e with
    | returned v =>
     obtain ⟨c1, ha1⟩ := he
     rw [hlen] at ha1
     have hl2 := ha1.len
     cases demC with
     | false =>
      simp only [Bool.false_eq_true, if_false, Option.some.injEq, Prod.mk.injEq] at hl
      obtain ⟨rfl, rfl⟩ := hl
      refine back h hdom hln hnd hlt ha1 (fun q => ?_) ?_
      ·rw [fin_getD hnd hlt hln (by simpa using hl2)]
       cases kap sel nb q with
       | some i => simp only [getD_map_ren']
       | none => rfl
      ·simp [putBack_len]; omega
     | true =>
      simp only [if_true, Option.some.injEq, Prod.mk.injEq] at hl
      obtain ⟨rfl, rfl⟩ := hl
      obtain ⟨c2, ha2⟩ := ha1.demote
      refine back h hdom hln hnd hlt ha2 (fun q => ?_) ?_
      ·rw [fin_getD hnd hlt hln (by simpa using hl2)]
       cases kap sel nb q with
       | some i => simp only [getD_map_ren', getD_map_demote, demote_ren]
       | none => rfl
      ·simp [putBack_len]; omega
    | panicked ch => exact he
    | outgrown => exact he
 ·cases hl
end Go.Gn

namespace Go.Gn
open Go
def Tbl (P : Program) (G : Nat → Option CF) (call : CallF) : Prop :=
 ∀ f cf, G f = some cf → (∃ fn, P.funcs[f]? = some fn ∧ fn.name ≠ "runtime.NumGoroutine" ∧ fn.body ≠ none) ∧ Good P call f cf.inl
theorem good_ck {P : Program} {call : CallF} {f : Nat} (h : Good P call f true) : Good P (ckCall call) f false := by
 simp only [Good, if_true, Bool.false_eq_true, if_false] at h ⊢
 intro args os r os' hc c w vals hst hdom ha
 simp only [ckCall] at hc
 split at hc
 ·rename_i r1 os1 h1
  split at hc
  ·rename_i hb
   cases hc
   simp only [Bool.and_eq_true, Nat.ble_eq] at hb
   obtain ⟨⟨b1, b2⟩, b3⟩ := hb
   refine Calls.mono (h args os _ _ h1 w c w vals hst hdom ha) (fun e w' he => ?_)
   cases e with
   | returned v' =>
    obtain ⟨c', g1, g2, g3, g4⟩ := he
    refine ⟨c', g1, g2.fix, g2.oth, g2.imm, fun o _ m hm => g2.μ o m hm, fun q hq => ?_, fun q hq hn => ?_, g2.kf, g2.ki, g2.ko, b3, g3, b1, fun q => ?_⟩
    ·rcases g4 q hq with h5 | h5
     ·have := hdom q h5
      omega
     ·exact h5.2
    ·cases hq2 : c'.μ q with
     | none => rfl
     | some m =>
      rcases g4 q (by rw [hq2]; simp) with h5 | h5
      ·exact absurd hn h5
      ·omega
    ·rw [List.getD_eq_getElem?_getD]
     cases hq : os'[q]? with
     | none => rfl
     | some y => exact (List.all_eq_true.1 b2) y (List.mem_of_getElem? hq)
   | panicked ch => exact he
   | outgrown => exact he
  ·cases hc
 ·cases hc
theorem run_callFunc {P : Program} {w : World} {f : Nat} {fn : Func} (h1 : P.funcs[f]? = some fn) (h2 : fn.name ≠ "runtime.NumGoroutine") (h3 : fn.body ≠ none) (args : Array Value) : (callFunc f args).run P w = .ok (.enter f args) w := by
 simp [callFunc, h1, h2, h3]
section
variable {P : Program} {c : Cx} {w w0 : World} {nt : Nat} {ts : Ts} {a : Act} {os : List Obj} (hf : Frm c w nt ts a) (hst : Store w0 c os w)
include hf hst
theorem call_wp {o : Oper} {G : Nat → Option CF} {call : CallF} {demC : Bool} {f : Nat} {cf : CF} {vs : List AV} {vals : List Value} {v : AV} {os' : List Obj} {K : Act → World → Prop} {Q : Exit → Act → World → Prop} (ht : Tbl P G call) (hG : G f = some cf) (hdom : ∀ q, c.μ q ≠ none → q < os.length)
  (hvs : RepAVs c w vs vals) (hrun : ∀ n, (callFunc f vals.toArray).run P w = .ok n w → (execOp a.eval o).run P w = .ok n w) (hev : (if inlC cf vs then call f vs os else localCall (callOf cf call) cf demC f vs os.length os) = some (v, os'))
  (hK : ∀ v' w' c', Store w0 c' os' w' → Ext c w c' w' → RepAV c' w' v v' → (∀ q, c'.μ q ≠ none → c.μ q ≠ none ∨ (os.length ≤ q ∧ q < os'.length)) → K (a.put o.dst v') w') : o.wp P a w K Q := by
 obtain ⟨⟨fn, h1, h2, h3⟩, hg⟩ := ht f cf hG
 unfold Oper.wp
 rw [hrun _ (run_callFunc h1 h2 h3 _), Oper.upon_enter]
 have hcalls : Calls P f vals.toArray w (retB fun v1 w' => ∃ c', Store w0 c' os' w' ∧ Ext c w c' w' ∧ RepAV c' w' v v1 ∧ ∀ q, c'.μ q ≠ none → c.μ q ≠ none ∨ (os.length ≤ q ∧ q < os'.length)) := by
  cases hi : cf.inl with
  | true =>
   rw [hi] at hg
   cases hb : inlC cf vs with
   | true =>
    simp only [hb, if_true] at hev
    simp only [Good, if_true] at hg
    exact hg _ _ _ _ hev w0 c w vals hst hdom hvs
   | false =>
    simp only [hb, Bool.false_eq_true, if_false, callOf, hi] at hev
    exact local_sound (good_ck hg) hev hst hdom (Nat.le_refl _) hvs
  | false =>
   rw [hi] at hg
   have hb : inlC cf vs = false := by simp [inlC, hi]
   simp only [hb, Bool.false_eq_true, if_false, callOf, hi] at hev
   exact local_sound hg hev hst hdom (Nat.le_refl _) hvs
 refine Calls.mono hcalls (fun e w' he => ?_)
 cases e with
 | returned v' =>
  obtain ⟨c', g1, g2, g3, g4⟩ := he
  exact hK v' w' c' g1 g2 g3 g4
 | panicked ch => exact he.elim
 | outgrown => exact he.elim
theorem op_wp {o : Oper} {ins : I} {call : CallF} {G : Nat → Option CF} {me : CF} {v : AV} {os' : List Obj} {K : Act → World → Prop} {Q : Exit → Act → World → Prop} (ht : Tbl P G call) (hdom : ∀ q, c.μ q ≠ none → q < os.length) (hc : cI P o.op = some ins) (hv : evI call G me ins ts os.length os = some (v, os'))
  (hK : ∀ v' w' c', Store w0 c' os' w' → Ext c w c' w' → RepAV c' w' v v' → (∀ q, c'.μ q ≠ none → c.μ q ≠ none ∨ (os.length ≤ q ∧ q < os'.length)) → K (a.put o.dst v') w') : o.wp P a w K Q := by
 have pl : (∀ cl, o.op = .call cl → plain ins = true) → o.wp P a w K Q := by
  intro hp
  have hnb : c.μ os.length = none := by
   cases h : c.μ os.length with
   | none => rfl
   | some m => exact absurd (hdom os.length (by rw [h]; simp)) (Nat.lt_irrefl _)
  obtain ⟨n, w', c', v', h1, h2, h3, h4, h5, h6⟩ := plain_sound hf hst hnb hc hp hv
  have := hK v' w' c' h3 h4 h5 (fun q hq => (h6 q hq).imp id (fun ⟨e, h⟩ => ⟨by omega, by omega⟩))
  unfold Oper.wp
  rw [h1]
  rcases h2 with rfl | ⟨rfl, rfl⟩
  ·exact this
  ·exact this
 by_cases hcall : ∃ cl, o.op = .call cl
 ·obtain ⟨cl, hop⟩ := hcall
  cases hcl : cl.callee with
  | invoke r n => rw [hop] at hc; simp [cI, hcl] at hc
  | builtin b =>
   refine pl (fun cl' hop' => ?_)
   rw [hop] at hop' hc
   cases hop'
   simp only [cI, hcl] at hc
   cases b <;> simp only [reduceCtorEq, Option.bind_eq_bind, Option.bind_eq_some_iff, Option.pure_def, Option.some.injEq] at hc
   case len =>
    obtain ⟨t, _, hc⟩ := hc
    split at hc
    ·simp only [Option.bind_eq_some_iff, Option.some.injEq] at hc; obtain ⟨_, _, rfl⟩ := hc; rfl
    ·simp only [Option.bind_eq_some_iff, Option.some.injEq] at hc; obtain ⟨_, _, rfl⟩ := hc; rfl
    ·cases hc
   case append =>
    obtain ⟨t, _, t1, _, e, _, i, _, hc⟩ := hc
    split at hc
    ·simp only [Option.bind_eq_some_iff] at hc
     obtain ⟨zs, _, hc⟩ := hc
     split at hc
     ·cases hc
     ·simp only [Option.bind_eq_some_iff, Option.some.injEq] at hc; obtain ⟨_, _, _, _, rfl⟩ := hc; rfl
    ·cases hc
   case copy =>
    obtain ⟨t, _, e, _, hc⟩ := hc
    split at hc
    ·simp only [Option.bind_eq_some_iff, Option.some.injEq] at hc; obtain ⟨_, _, _, _, _, _, rfl⟩ := hc; rfl
    ·cases hc
   case clear =>
    obtain ⟨t, _, e, _, hc⟩ := hc
    split at hc
    ·simp only [Option.bind_eq_some_iff, Option.some.injEq] at hc; obtain ⟨_, _, _, _, _, _, rfl⟩ := hc; rfl
    ·cases hc
   case min => obtain ⟨_, _, rfl⟩ := hc; rfl
   case max => obtain ⟨_, _, rfl⟩ := hc; rfl
  | value x =>
   rw [hop] at hc
   simp only [cI, hcl] at hc
   split at hc
   ·rename_i f hcl'
    simp only [Callee.value.injEq] at hcl'
    subst hcl'
    simp only [cXs, Option.bind_eq_bind, Option.bind_eq_some_iff, Option.pure_def, Option.some.injEq] at hc
    obtain ⟨xs, hxs, rfl⟩ := hc
    simp only [evI, forceL_eq] at hv
    split at hv
    ·cases hv
    ·rename_i cf hG
     have hr := rep_Xs hf hxs
     refine call_wp (demC := me.demC) hf hst ht hG hdom hr (fun n hn => ?_) hv hK
     have e : (cl.args.toList.map a.eval).toArray = cl.args.map a.eval := by rw [← Array.toList_map, Array.toArray_toList]
     rw [e] at hn
     simp [execOp, hop, resolve, hcl, Deferred.ofValue, invoke, Act.eval, hn]
   ·rename_i x' hne hcl'
    simp only [Callee.value.injEq] at hcl'
    subst hcl'
    simp only [cXs, Option.bind_eq_bind, Option.bind_eq_some_iff, Option.pure_def, Option.some.injEq] at hc
    obtain ⟨X', hx, xs, hxs, rfl⟩ := hc
    simp only [evI, forceL_eq] at hv
    split at hv
    ·rename_i f caps hX
     split at hv
     ·cases hv
     ·rename_i cf hG
      have hr := rep_Xs hf hxs
      have h1 := rep_X hf hx
      rw [hX] at h1
      generalize hv1 : a.eval x = v1 at h1
      cases h1 with
      | fn _ _ cvs hcv =>
      refine call_wp (demC := me.demC) hf hst ht hG hdom (hr.append hcv) (fun n hn => ?_) hv hK
      have e : (cl.args.toList.map a.eval ++ cvs).toArray = cl.args.map a.eval ++ cvs.toArray := by rw [← Array.toList_map]; simp
      rw [e] at hn
      simp [execOp, hop, resolve, hcl, hv1, Deferred.ofValue, invoke, hn]
    ·cases hv
   all_goals first | (cases hc; done) | (rename_i h; cases h; done)
 ·exact pl (fun cl hop => absurd ⟨cl, hop⟩ hcall)
end
end Go.Gn

namespace Go.Gn
open Go
structure ExtM (M : Nat) (c : Cx) (w : World) (c' : Cx) (w' : World) : Prop where
 fix : c'.fix = c.fix
 oth : c'.oth = c.oth
 imm : ∀ b, c.imm b → c'.imm b
 μ : ∀ o, o < M → ∀ m, c.μ o = some m → ∃ m', c'.μ o = some m' ∧ m.le m'
 old : ∀ o, o < M → c.μ o = none → c'.μ o = none
 kf : Keep c.fix w w'
 ki : Keep c.imm w w'
 ko : Keep c.oth w w'
theorem ExtM.refl (M : Nat) (c : Cx) (w : World) : ExtM M c w c w := ⟨rfl, rfl, fun _ h => h, fun _ _ m h => ⟨m, h, m.le_refl⟩, fun _ _ h => h, Keep.refl _ _, Keep.refl _ _, Keep.refl _ _⟩
theorem ExtM.trans {M : Nat} {c c1 c2 : Cx} {w w1 w2 : World} (h : ExtM M c w c1 w1) (h' : ExtM M c1 w1 c2 w2) : ExtM M c w c2 w2 :=
 ⟨h'.fix.trans h.fix, h'.oth.trans h.oth, fun b hb => h'.imm b (h.imm b hb), fun o ho m hm => let ⟨m1, h1, l1⟩ := h.μ o ho m hm; let ⟨m2, h2, l2⟩ := h'.μ o ho m1 h1; ⟨m2, h2, l1.trans l2⟩, fun o ho hn => h'.old o ho (h.old o ho hn),
  h.kf.trans (by rw [← h.fix]; exact h'.kf), h.ki.trans (h'.ki.sub h.imm), h.ko.trans (by rw [← h.oth]; exact h'.ko)⟩
theorem ExtM.of_ext {M : Nat} {c c' : Cx} {w w' : World} (h : Ext c w c' w') (ho : ∀ o, o < M → c.μ o = none → c'.μ o = none) : ExtM M c w c' w' :=
 ⟨h.fix, h.oth, h.imm, fun o _ m hm => h.μ o m hm, ho, h.kf, h.ki, h.ko⟩
structure Inv (M nt : Nat) (c0 : Cx) (wi w0 : World) (st : St) (c : Cx) (w : World) (a : Act) : Prop where
 frm : Frm c w nt st.ts a
 str : Store w0 c st.os w
 dom : ∀ q, c.μ q ≠ none → q < st.os.length
 ext : ExtM M c0 wi c w
 len : M ≤ st.os.length
theorem put_frm {c : Cx} {w : World} {nt : Nat} {ts : Ts} {a : Act} (h : Frm c w nt ts a) {d : Option Nat} {v : AV} {v' : Value} (hr : RepAV c w v v') (hd : ∀ t, d = some t → t < nt) : Frm c w nt (putT ts d v) (a.put d v') := by
 cases d with
 | none => exact h
 | some t =>
  refine ⟨h.dfs, by simpa [Act.put] using h.sz, fun q => ?_⟩
  simp only [putT, Act.put, Ts.at]
  by_cases hq : t = q
  ·subst hq
   have : Nat.beq t t = true := Nat.beq_refl t
   rw [this]
   have ht : t < a.tmps.size := by rw [h.sz]; exact hd t rfl
   simp [Array.getD_eq_getD_getElem?, Array.getElem?_setIfInBounds, ht]
   exact hr
  ·have : Nat.beq t q = false := by
    cases hb : Nat.beq t q with
    | false => rfl
    | true => exact absurd (Nat.eq_of_beq_eq_true hb) hq
   rw [this]
   have := h.at_ q
   simp [Array.getD_eq_getD_getElem?, Array.getElem?_setIfInBounds, hq] at this ⊢
   exact this
theorem Inv.step {M nt : Nat} {c0 : Cx} {wi w0 : World} {st : St} {c : Cx} {w : World} {a : Act} (h : Inv M nt c0 wi w0 st c w a) {d : Option Nat} {v : AV} {v' : Value} {os' : List Obj} {w' : World} {c' : Cx} (h1 : Store w0 c' os' w') (h2 : Ext c w c' w') (h3 : RepAV c' w' v v')
  (h4 : ∀ q, c'.μ q ≠ none → c.μ q ≠ none ∨ (st.os.length ≤ q ∧ q < os'.length)) (hlen : st.os.length ≤ os'.length) (hd : ∀ t, d = some t → t < nt) : Inv M nt c0 wi w0 ⟨putT st.ts d v, os'⟩ c' w' (a.put d v') := by
 refine ⟨put_frm (h.frm.mono h2) h3 hd, h1, fun q hq => ?_, h.ext.trans (ExtM.of_ext h2 (fun o ho hn => ?_)), Nat.le_trans h.len hlen⟩
 ·rcases h4 q hq with h5 | h5
  ·exact Nat.lt_of_lt_of_le (h.dom q h5) hlen
  ·exact h5.2
 ·cases hm : c'.μ o with
  | none => rfl
  | some m =>
   rcases h4 o (by rw [hm]; simp) with h5 | h5
   ·exact absurd hn h5
   ·have := h.len; omega
theorem yielded_bool {P : Program} {c : Cx} {w : World} {nt : Nat} {ts : Ts} {a : Act} (h : Frm c w nt ts a) {ops : Array Oper} {j d : Nat} {oj : Oper} (hj : ops[j]? = some oj) (hd : oj.dst = some d) {b : Bool} (hb : ts.at d = .bool b) : yielded ops a.tmps j = some b := by
 have := h.at_ d
 rw [hb] at this
 generalize hv : a.tmps.getD d undef = v at this
 cases this
 simp only [Array.getD_eq_getD_getElem?] at hv
 cases hq : a.tmps[d]? with
 | none => rw [hq] at hv; simp [undef] at hv
 | some u => rw [hq] at hv; simp at hv; subst hv; simp [yielded, hj, hd, hq]
theorem yielded_un {P : Program} {c : Cx} {w : World} {nt : Nat} {ts : Ts} {a : Act} (h : Frm c w nt ts a) {ops : Array Oper} {j d : Nat} {oj : Oper} (hj : ops[j]? = some oj) (hd : oj.dst = some d) (hb : ts.at d = .un) : yielded ops a.tmps j = none := by
 have := h.at_ d
 rw [hb] at this
 generalize hv : a.tmps.getD d undef = v at this
 cases this
 simp only [Array.getD_eq_getD_getElem?] at hv
 cases hq : a.tmps[d]? with
 | none => simp [yielded, hj, hd, hq]
 | some u => rw [hq] at hv; simp at hv; subst hv; simp [yielded, hj, hd, hq, undef]
end Go.Gn

namespace Go.Gn
open Go
theorem cO_inv {P : Program} {draw : Bool} {ops : Array Oper} {o : Oper} {co : O} (hc : cO P draw ops o = some co) : co.dst = o.dst ∧ cI P o.op = some co.ins ∧
  ((o.guard = none ∧ co.guard = none) ∨ ∃ j b oj d, o.guard = some (j, b) ∧ ops[j]? = some oj ∧ oj.dst = some d ∧ co.guard = some (d, b)) := by
 simp only [cO, Option.bind_eq_bind, Option.bind_eq_some_iff] at hc
 obtain ⟨ins, hins, hc⟩ := hc
 cases hg : o.guard with
 | none =>
  rw [hg] at hc
  simp only [Option.bind_some, Option.pure_def, Option.some.injEq] at hc
  subst hc
  exact ⟨rfl, hins, .inl ⟨rfl, rfl⟩⟩
 | some jb =>
  obtain ⟨j, b⟩ := jb
  rw [hg] at hc
  simp only [Option.bind_eq_some_iff, Option.pure_def, Option.some.injEq, Option.bind_some] at hc
  obtain ⟨oj, hoj, d, hdj, rfl⟩ := hc
  exact ⟨rfl, hins, .inr ⟨j, b, oj, d, rfl, hoj, hdj, rfl⟩⟩
section
variable {P : Program} {M nt : Nat} {c0 c : Cx} {wi w0 w : World} {st : St} {a : Act} {G : Nat → Option CF} {call : CallF} {me : CF}
theorem evO_wp (ht : Tbl P G call) {draw : Bool} {ops : Array Oper} {o : Oper} {co : O} (hc : cO P draw ops o = some co) (hd : ∀ t, co.dst = some t → t < nt) (h : Inv M nt c0 wi w0 st c w a) {st' : St} (hv : evO call G me co st.os.length st = some st') {K : Act → World → Prop} {Q : Exit → Act → World → Prop}
  (hK : ∀ c' w' a', Inv M nt c0 wi w0 st' c' w' a' → (∀ q, c'.μ q ≠ none → c.μ q ≠ none ∨ st.os.length ≤ q) → K a' w') : if Region.wanted o (yielded ops a.tmps) then o.wp P a w K Q else K (a.put o.dst undef) w := by
 obtain ⟨e1, hins, hg⟩ := cO_inv hc
 obtain ⟨cd, ins, cg, cdp⟩ := co
 simp only at e1 hins hg hd
 subst e1
 have go : ∀ st', (match evI call G me ins st.ts st.os.length st.os with
   | none => none
   | some (v, os) => match Nat.ble st.os.length os.length with
    | true => some (⟨putT st.ts o.dst v, os⟩ : St)
    | false => none) = some st' → (∀ c' w' a', Inv M nt c0 wi w0 st' c' w' a' → (∀ q, c'.μ q ≠ none → c.μ q ≠ none ∨ st.os.length ≤ q) → K a' w') → o.wp P a w K Q := by
  intro st' hv hK
  split at hv
  ·cases hv
  ·rename_i v os hev
   split at hv
   ·rename_i hle
    cases hv
    refine op_wp h.frm h.str ht h.dom hins hev (fun v' w' c' g1 g2 g3 g4 => hK c' w' _ (h.step g1 g2 g3 g4 (Nat.le_of_ble_eq_true hle) hd) (fun q hq => (g4 q hq).imp id And.left))
   ·cases hv
 have skip : ∀ st', some (⟨putT st.ts o.dst .un, st.os⟩ : St) = some st' → (∀ c' w' a', Inv M nt c0 wi w0 st' c' w' a' → (∀ q, c'.μ q ≠ none → c.μ q ≠ none ∨ st.os.length ≤ q) → K a' w') → K (a.put o.dst undef) w := by
  intro st' hv hK
  cases hv
  exact hK c w _ (h.step h.str (Ext.refl _ _) .un (fun q hq => .inl hq) (Nat.le_refl _) hd) (fun q hq => .inl hq)
 rcases hg with ⟨g1, rfl⟩ | ⟨j, b, oj, d, g1, hoj, hdj, rfl⟩
 ·have hw : Region.wanted o (yielded ops a.tmps) = true := by simp [Region.wanted, g1]
  rw [hw]
  simp only [evO] at hv
  simp only [if_true]
  exact go st' hv hK
 ·have hw : Region.wanted o (yielded ops a.tmps) = (yielded ops a.tmps j == some b) := by simp [Region.wanted, g1]
  rw [hw]
  simp only [evO] at hv
  split at hv
  ·rename_i hb
   rw [yielded_bool (P := P) h.frm hoj hdj hb]
   cases b
   ·simp at hv ⊢
    exact skip st' (by rw [hv]) hK
   ·simp only [if_true] at hv
    simp
    exact go st' hv hK
  ·rename_i hb
   rw [yielded_bool (P := P) h.frm hoj hdj hb]
   cases b
   ·simp only [Bool.false_eq_true, if_false] at hv
    simp
    exact go st' hv hK
   ·simp at hv ⊢
    exact skip st' (by rw [hv]) hK
  ·rename_i hb
   rw [yielded_un (P := P) h.frm hoj hdj hb]
   simp
   exact skip st' hv hK
  ·cases hv
theorem evOps_wp (ht : Tbl P G call) {draw : Bool} {ops : Array Oper} {Q : Exit → Act → World → Prop} : ∀ (cs : List O) (k : Nat), (∀ i co, cs[i]? = some co → ∃ o, ops[k + i]? = some o ∧ cO P draw ops o = some co ∧ ∀ t, co.dst = some t → t < nt) →
  ∀ {st : St} {c : Cx} {w : World} {a : Act}, Inv M nt c0 wi w0 st c w a → ∀ {st' : St}, evOps call G me cs st = some st' → (∀ c' w' a', Inv M nt c0 wi w0 st' c' w' a' → Q .normal a' w') → wpOps P ops Q (List.range' k cs.length) a w
 | [], k, _, st, c, w, a, h, st', hv, hK => by
  simp only [evOps, Option.some.injEq] at hv
  subst hv
  simp only [List.length_nil, List.range'_zero, wpOps]
  exact hK c w a h
 | co :: cs, k, hall, st, c, w, a, h, st', hv, hK => by
  simp only [evOps] at hv
  split at hv
  ·cases hv
  ·rename_i st1 h1
   obtain ⟨o, ho, hco, hd⟩ := hall 0 co rfl
   simp only [Nat.add_zero] at ho
   have := evO_wp (Q := Q) (K := wpOps P ops Q (List.range' (k + 1) cs.length)) ht hco hd h h1 (fun c' w' a' h' _ => evOps_wp ht cs (k + 1) (fun i co hi => by
    have := hall (i + 1) co (by simpa using hi)
    rwa [show k + (i + 1) = k + 1 + i by omega] at this) h' hv hK)
   simp only [List.length_cons, List.range'_succ, wpOps, ho]
   split
   ·rename_i hw; rw [if_pos hw] at this; exact .inl this
   ·rename_i hw; rw [if_neg hw] at this; exact this
end
end Go.Gn

