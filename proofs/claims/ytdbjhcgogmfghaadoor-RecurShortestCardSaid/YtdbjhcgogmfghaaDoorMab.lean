/-
  An abstract machine for this program, and contracts of its functions: part Mab (no statement by itself).
-/
import Derived.Test.YtdbjhcgogmfghaaDoorMaa
import Derived.Maps.AppendAt
set_option linter.unusedVariables false
set_option linter.unusedSimpArgs false
set_option linter.unnecessarySimpa false

/-
  Plain operations, all in one; loads, new blocks, stores.
-/
namespace Go.Abs
open Go

section
variable {P : Program} {w : World} {ρ : Nm → Nat} {S : Store} {r : Operand → AVal} {η : Operand → Value}

theorem run_then {α : Type} {x : Sem α} {u : α} (h : x.run P w = .ok u w) (f : α → Next) : (do pure (f (← x)) : Sem Next).run P w = .ok (f u) w := by
  simp [h]

theorem run_then' {α : Type} {x : Sem α} {u : α} {w' : World} (h : x.run P w = .ok u w') (f : α → Next) : (do pure (f (← x)) : Sem Next).run P w = .ok (f u) w' := by
  simp [h]

theorem sindE_run {t : TypeId} {xv iv v : AVal} {a i : Value} (hx : VS w ρ S xv a) (hi : VS w ρ S iv i) (h : sindE P t xv iv v) : ∃ u, (Instr.index t a i).run P w = .ok u w ∧ VS w ρ S v u := by
  obtain ⟨hu, h⟩ := h
  split at h
  · rename_i s k j
    obtain ⟨h1, b, h2, rfl⟩ := h
    have e1 := vs_sc hx
    have e2 := vs_sc hi
    subst e1; subst e2
    exact ⟨_, by simp [Instr.index, asIntOf, run_underlying' hu, h1, h2], rfl⟩
  · exact h.elim

theorem PE0_run (hr : ∀ x, VS w ρ S (r x) (η x)) {o : Oper} {v : AVal} (h : PE0 P r o.op v) :
    ∃ u, (execOp η o).run P w = .ok (.value u) w ∧ VS w ρ S v u := by
  obtain ⟨dst, op, ty, pos, after, guard⟩ := o
  cases op with
  | move x => simp only [PE0] at h; subst h; exact ⟨_, rfl, hr _⟩
  | assign x => simp only [PE0] at h; subst h; exact ⟨_, rfl, hr _⟩
  | pick c a b =>
    simp only [PE0] at h
    split at h
    · rename_i t e
      have ec := hr c; rw [e] at ec; have ec := vs_sc ec
      subst h
      refine ⟨if t then η a else η b, by simp [execOp, ec, asBool], ?_⟩
      cases t
      · exact hr b
      · exact hr a
    · exact h.elim
  | nilCheck x =>
    simp only [PE0] at h
    have hx := hr x
    refine ⟨η x, ?_, ?_⟩
    · split at h
      · rename_i e; rw [e] at hx; obtain ⟨_, q⟩ := hx; simp [execOp, q]
      · rename_i e; rw [e] at hx; obtain ⟨b, o, q, _⟩ := hx; simp [execOp, q]
      · rename_i e; rw [e] at hx; obtain ⟨vs, q, _⟩ := hx; simp [execOp, q]
      · exact h.elim
    · split at h <;> first | exact h.elim | (subst h; exact hx)
  | binOp op T x y T2 =>
    obtain ⟨u, h1, h2⟩ := binE_run (x := x) (y := y) (hr x) (hr y) h
    exact ⟨u, run_then h1 _, h2⟩
  | unOp op T x => obtain ⟨u, h1, h2⟩ := unE_run (hr x) h; exact ⟨u, run_then h1 _, h2⟩
  | convert s d x => obtain ⟨u, h1, h2⟩ := convE_run (hr x) h; exact ⟨u, run_then h1 _, h2⟩
  | fieldAddr s x f => obtain ⟨u, h1, h2⟩ := fieldAddrE_run (hr x) h; exact ⟨u, run_then h1 _, h2⟩
  | field s x f => obtain ⟨u, h1, h2⟩ := fieldE_run (hr x) h; exact ⟨u, run_then h1 _, h2⟩
  | indexAddr t x i => obtain ⟨u, h1, h2⟩ := h.elim (indexE_run (hr x) (hr i)) (indexA_run (hr x) (hr i)); exact ⟨u, run_then h1 _, h2⟩
  | slice t x lo hi mx => obtain ⟨u, h1, h2⟩ := sliceE_run hr h; exact ⟨u, run_then h1 _, h2⟩
  | index t x i => obtain ⟨u, h1, h2⟩ := sindE_run (hr x) (hr i) h; exact ⟨u, run_then h1 _, h2⟩
  | extract x i =>
    obtain ⟨u, h1, h2⟩ := extractE_run (hr x) h
    exact ⟨u, run_then h1 _, h2⟩
  | build t ps => obtain ⟨u, h1, h2⟩ := buildE_run hr h; exact ⟨u, run_then h1 _, h2⟩
  | makeFunc g first cap =>
    simp only [PE0] at h
    split at h
    · obtain ⟨rfl, h⟩ := h
      obtain ⟨u, h1, h2⟩ := mkE_run (P := P) hr h
      exact ⟨u, by simp [execOp, h1], h2⟩
    · exact h.elim
  | call c =>
    simp only [PE0] at h
    split at h
    · rename_i b e
      obtain ⟨callee, args, tys⟩ := c
      simp only at e h
      subst e
      unfold builtinE at h
      split at h
      · rename_i x t ea et
        have ea' : args = #[x] := by cases args; simp_all
        have et' : tys = #[t] := by cases tys; simp_all
        subst ea' et'
        obtain ⟨u, h1, h2⟩ := lenE_run (ty := ty) (hr x) h
        exact ⟨u, by simp [execOp, resolve, invoke, builtin, h1], h2⟩
      · obtain ⟨u, h1, _, h2⟩ := minE_run (P := P) hr h
        exact ⟨u, by simp [execOp, resolve, invoke, builtin, h1 tys ty rfl], h2⟩
      · obtain ⟨u, _, h1, h2⟩ := minE_run (P := P) hr h
        exact ⟨u, by simp [execOp, resolve, invoke, builtin, h1 tys ty rfl], h2⟩
      · exact h.elim
    · exact h.elim
  | _ => exact h.elim

/-! ### Floats -/
theorem vs_f {a : Option Nat} {u : Value} (h : VS w ρ S (fv a) u) : ∃ p, u = .float .f64 p ∧ FO a p := h
theorem vs_z {a b : Option Nat} {u : Value} (h : VS w ρ S (zv a b) u) : ∃ p q, u = .complex .f64 p q ∧ FO a p ∧ FO b q := h

theorem nan_read {p : Nat} (h : nanW p) : ∃ s t, FloatKind.f64.format.read p = .nan s t := by
  have h := h.2
  unfold FloatKind.decode at h
  cases e : FloatKind.f64.format.read p with
  | nan s t => exact ⟨s, t, rfl⟩
  | number s m i => rw [e] at h; cases h
  | infinity s => rw [e] at h; cases h
theorem add_nan {p q : Nat} (h : nanW p ∨ nanW q) : FloatKind.f64.format.add p q = none ∧ FloatKind.f64.format.sub p q = none ∧ FloatKind.f64.format.mul p q = none ∧ FloatKind.f64.format.div p q = none ∧ FloatKind.f64.format.order p q = none := by
  rcases h with h | h <;> obtain ⟨s, t, e⟩ := nan_read h
  · refine ⟨?_, ?_, ?_, ?_, ?_⟩ <;> simp [Ieee.Format.add, Ieee.Format.sub, Ieee.Format.mul, Ieee.Format.div, Ieee.Format.order, e, Ieee.Datum.sum, Ieee.Datum.product, Ieee.Datum.quotient, Ieee.Datum.order]
  · refine ⟨?_, ?_, ?_, ?_, ?_⟩ <;> cases e2 : FloatKind.f64.format.read p <;> simp [Ieee.Format.add, Ieee.Format.sub, Ieee.Format.mul, Ieee.Format.div, Ieee.Format.order, e, e2, Ieee.Datum.sum, Ieee.Datum.product, Ieee.Datum.quotient, Ieee.Datum.order, Ieee.Datum.opposite]
theorem fO_some {g : Nat → Nat → Option Nat} (hg : ∀ p q, nanW p ∨ nanW q → g p q = none) {a b : Option Nat} {p q : Nat} (ha : FO a p) (hb : FO b q) : g p q = fO g a b := by
  cases a <;> cases b
  · exact hg p q (.inl ha)
  · exact hg p q (.inl ha)
  · exact hg p q (.inr hb)
  · have ha : p = _ := ha; have hb : q = _ := hb; subst ha; subst hb; rfl
theorem ford_some {a b : Option Nat} {p q : Nat} (ha : FO a p) (hb : FO b q) : FloatKind.f64.format.order p q = ford a b := by
  cases a <;> cases b
  · exact (add_nan (.inl ha)).2.2.2.2
  · exact (add_nan (.inl ha)).2.2.2.2
  · exact (add_nan (.inr hb)).2.2.2.2
  · have ha : p = _ := ha; have hb : q = _ := hb; subst ha; subst hb; rfl

theorem nanW_cut (t : Nat) : nanW ((t % 2) * 2 ^ 63 + 0x7ff0000000000000 + 1 + (t / 2) % (2 ^ 52 - 1)) := by
  have h1 : t % 2 < 2 := Nat.mod_lt _ (by decide)
  have h2 : (t / 2) % (2 ^ 52 - 1) < 2 ^ 52 - 1 := Nat.mod_lt _ (by decide)
  generalize (t / 2) % (2 ^ 52 - 1) = x at h2
  refine ⟨by omega, ?_⟩
  unfold FloatKind.decode FloatKind.format Ieee.Format.read Ieee.Format.signWeight Ieee.Format.binade Ieee.Format.infRung Ieee.double
  have e : (t % 2 * 2 ^ 63 + 0x7ff0000000000000 + 1 + x) % 2 ^ (11 + 52) = 0x7ff0000000000001 + x := by omega
  simp only [e]
  have q1 : ¬ (0x7ff0000000000001 + x < 2 ^ 52) := by omega
  have q2 : ¬ (0x7ff0000000000001 + x < (2 ^ 11 - 1) * 2 ^ 52) := by omega
  have q3 : ¬ (0x7ff0000000000001 + x = (2 ^ 11 - 1) * 2 ^ 52) := by omega
  show (if 9218868437227405313 + x < 2 ^ 52 then _ else if 9218868437227405313 + x < (2 ^ 11 - 1) * 2 ^ 52 then _ else if 9218868437227405313 + x = (2 ^ 11 - 1) * 2 ^ 52 then _ else _ : Ieee.Datum).isNaN = true
  rw [if_neg q1, if_neg q2, if_neg q3]
  rfl

theorem run_arith {r : Option Nat} {x y : Nat} (w : World) : ∃ p n, (match r with | some r => pure (.float .f64 r) | none => do pure (.float .f64 (← choose (.nanBits .f64 x y))) : Sem Value).run P w = .ok (.float .f64 p) { w with drawn := n } ∧ FO r p := by
  cases r with
  | some r => exact ⟨r, w.drawn, rfl, rfl⟩
  | none => exact ⟨_, w.drawn + 1, rfl, nanW_cut _⟩

theorem arith_run {op : BinOp} {g : Nat → Nat → Option Nat} {x y : Nat} {a b : Option Nat} (ho : (op = .add ∧ g = FloatKind.f64.format.add) ∨ (op = .sub ∧ g = FloatKind.f64.format.sub) ∨ (op = .mul ∧ g = FloatKind.f64.format.mul) ∨ (op = .quo ∧ g = FloatKind.f64.format.div))
    (ha : FO a x) (hb : FO b y) (w : World) : ∃ p n, (Op.floatArith op .f64 x y).run P w = .ok (.float .f64 p) { w with drawn := n } ∧ FO (fO g a b) p := by
  have hg : ∀ p q, nanW p ∨ nanW q → g p q = none := fun p q h => by
    obtain ⟨h1, h2, h3, h4, -⟩ := add_nan h
    rcases ho with ⟨-, rfl⟩ | ⟨-, rfl⟩ | ⟨-, rfl⟩ | ⟨-, rfl⟩ <;> assumption
  rw [← fO_some hg ha hb]
  rcases ho with ⟨rfl, rfl⟩ | ⟨rfl, rfl⟩ | ⟨rfl, rfl⟩ | ⟨rfl, rfl⟩
  all_goals
    first
    | (obtain ⟨p, n, h1, h2⟩ := run_arith (P := P) (x := x) (y := y) (r := FloatKind.f64.format.add x y) w; exact ⟨p, n, h1, h2⟩)
    | (obtain ⟨p, n, h1, h2⟩ := run_arith (P := P) (x := x) (y := y) (r := FloatKind.f64.format.sub x y) w; exact ⟨p, n, h1, h2⟩)
    | (obtain ⟨p, n, h1, h2⟩ := run_arith (P := P) (x := x) (y := y) (r := FloatKind.f64.format.mul x y) w; exact ⟨p, n, h1, h2⟩)
    | (obtain ⟨p, n, h1, h2⟩ := run_arith (P := P) (x := x) (y := y) (r := FloatKind.f64.format.div x y) w; exact ⟨p, n, h1, h2⟩)

theorem cmp_run {op : BinOp} {x y : Nat} {a b : Option Nat} (ho : isCmp op = true) (ha : FO a x) (hb : FO b y) (w : World) : (Op.floatCmp op .f64 x y).run P w = .ok (.bool (fcmp op a b)) w := by
  have e := ford_some ha hb
  cases op <;> first | (exact absurd ho (by decide)) | (simp only [Op.floatCmp, fcmp, ← e, Sem.run_pure])

theorem fbinE_run {op : BinOp} {T : TypeId} {x y : Operand} {xv yv v : AVal} {a b : Value} (hx : VS w ρ S xv a) (hy : VS w ρ S yv b) (h : fbinE op xv yv v) :
    ∃ u n, (do eqGuard op T x y a b; binOp op T a b : Sem Value).run P w = .ok u { w with drawn := n } ∧ VS w ρ S v u := by
  unfold fbinE at h
  split at h
  · rename_i p q
    obtain ⟨m, rfl, hm⟩ := vs_f hx
    obtain ⟨n, rfl, hn⟩ := vs_f hy
    have eg : (eqGuard op T x y (.float .f64 m) (.float .f64 n)).run P w = .ok () w := by cases op <;> rfl
    simp only [Sem.run_bind, eg, Result.andThen_ok]
    have ar : ∀ g, ((op = .add ∧ g = FloatKind.f64.format.add) ∨ (op = .sub ∧ g = FloatKind.f64.format.sub) ∨ (op = .mul ∧ g = FloatKind.f64.format.mul) ∨ (op = .quo ∧ g = FloatKind.f64.format.div)) → v = fv (fO g p q) →
        ∃ u n', (binOp op T (.float .f64 m) (.float .f64 n)).run P w = .ok u { w with drawn := n' } ∧ VS w ρ S v u := fun g hg e => by
      obtain ⟨r, n', h1, h2⟩ := arith_run (P := P) hg hm hn w
      refine ⟨.float .f64 r, n', ?_, by rw [e]; exact ⟨r, rfl, h2⟩⟩
      rw [← h1]
      rcases hg with ⟨rfl, -⟩ | ⟨rfl, -⟩ | ⟨rfl, -⟩ | ⟨rfl, -⟩ <;> simp [binOp]
    split at h
    · exact ar _ (.inl ⟨rfl, rfl⟩) (by rw [h, fadd])
    · exact ar _ (.inr (.inl ⟨rfl, rfl⟩)) (by rw [h, fsub])
    · exact ar _ (.inr (.inr (.inl ⟨rfl, rfl⟩))) (by rw [h, fmul])
    · exact ar _ (.inr (.inr (.inr ⟨rfl, rfl⟩))) (by rw [h, fquo])
    · obtain ⟨hc, rfl⟩ := h
      refine ⟨.bool (fcmp op p q), w.drawn, ?_, rfl⟩
      have := cmp_run (P := P) hc hm hn w
      rw [show ({ w with drawn := w.drawn } : World) = w from rfl, ← this]
      cases op <;> first | (exact absurd hc (by decide)) | simp [binOp]
  · rename_i a1 a2 b1 b2
    obtain ⟨p1, p2, rfl, hp1, hp2⟩ := vs_z hx
    obtain ⟨q1, q2, rfl, hq1, hq2⟩ := vs_z hy
    have eg : (eqGuard op T x y (.complex .f64 p1 p2) (.complex .f64 q1 q2)).run P w = .ok () w := by cases op <;> rfl
    simp only [Sem.run_bind, eg, Result.andThen_ok]
    have ar : ∀ g, ((op = .add ∧ g = FloatKind.f64.format.add) ∨ (op = .sub ∧ g = FloatKind.f64.format.sub)) → v = zv (fO g a1 b1) (fO g a2 b2) →
        ∃ u n', (binOp op T (.complex .f64 p1 p2) (.complex .f64 q1 q2)).run P w = .ok u { w with drawn := n' } ∧ VS w ρ S v u := fun g hg e => by
      have hg' : (op = .add ∧ g = FloatKind.f64.format.add) ∨ (op = .sub ∧ g = FloatKind.f64.format.sub) ∨ (op = .mul ∧ g = FloatKind.f64.format.mul) ∨ (op = .quo ∧ g = FloatKind.f64.format.div) := by
        rcases hg with h | h
        · exact .inl h
        · exact .inr (.inl h)
      obtain ⟨r1, n1, h1, h2⟩ := arith_run (P := P) hg' hp1 hq1 w
      obtain ⟨r2, n2, h3, h4⟩ := arith_run (P := P) hg' hp2 hq2 { w with drawn := n1 }
      refine ⟨.complex .f64 r1 r2, n2, ?_, by rw [e]; exact ⟨r1, r2, rfl, h2, h4⟩⟩
      rcases hg with ⟨rfl, -⟩ | ⟨rfl, -⟩ <;> simp [binOp, Op.complexOp, Op.Complex.arith, h1, h3]
    have cm : ∀ (w : World), (Op.Complex.cmp .eql .f64 p1 q1).run P w = .ok (fcmp .eql a1 b1) w ∧ (Op.Complex.cmp .eql .f64 p2 q2).run P w = .ok (fcmp .eql a2 b2) w := fun w => by
      constructor
      · simp [Op.Complex.cmp, cmp_run (P := P) (op := .eql) rfl hp1 hq1, asBool]
      · simp [Op.Complex.cmp, cmp_run (P := P) (op := .eql) rfl hp2 hq2, asBool]
    split at h
    · exact ar _ (.inl ⟨rfl, rfl⟩) (by rw [h, fadd, fadd])
    · exact ar _ (.inr ⟨rfl, rfl⟩) (by rw [h, fsub, fsub])
    · subst h
      refine ⟨.bool (fcmp .eql a1 b1 && fcmp .eql a2 b2), w.drawn, ?_, rfl⟩
      cases e : fcmp .eql a1 b1 <;> simp [binOp, Op.complexOp, (cm w).1, (cm w).2, e]
    · subst h
      refine ⟨.bool (!(fcmp .eql a1 b1 && fcmp .eql a2 b2)), w.drawn, ?_, rfl⟩
      cases e : fcmp .eql a1 b1 <;> simp [binOp, Op.complexOp, (cm w).1, (cm w).2, e]
    · exact h.elim
  · exact h.elim

theorem neg_nan {p : Nat} (h : nanW p) : nanW (Op.negFloat .f64 p) := by
  have h2 : p ^^^ 2 ^ 63 < 2 ^ 64 := Nat.xor_lt_two_pow h.1 (by decide)
  refine ⟨h2, ?_⟩
  have h1 := h.2
  have e : (p ^^^ 2 ^ 63) % 2 ^ 63 = p % 2 ^ 63 := by
    rw [Nat.xor_mod_two_pow, Nat.mod_self, Nat.xor_zero]
  revert h1
  unfold Op.negFloat FloatKind.decode FloatKind.format Ieee.Format.read Ieee.Format.signWeight Ieee.Format.binade Ieee.Format.infRung Ieee.double
  simp only [show (11 : Nat) + 52 = 63 from rfl]
  rw [e]
  generalize p % 2 ^ 63 = x
  split
  · intro h; cases h
  · split
    · intro h; cases h
    · split
      · intro h; cases h
      · intro _; rfl
theorem fneg_FO {a : Option Nat} {p : Nat} (h : FO a p) : FO (fneg a) (Op.negFloat .f64 p) := by
  cases a with
  | none => exact neg_nan h
  | some n => have h : p = n := h; subst h; rfl

theorem FE_run (hr : ∀ x, VS w ρ S (r x) (η x)) {o : Oper} {v : AVal} (h : FE P r o.op v) :
    ∃ u n, (execOp η o).run P w = .ok (.value u) { w with drawn := n } ∧ VS w ρ S v u := by
  obtain ⟨dst, op, ty, pos, after, guard⟩ := o
  cases op with
  | binOp op T x y T2 =>
    obtain ⟨u, n, h1, h2⟩ := fbinE_run (P := P) (T := T) (x := x) (y := y) (hr x) (hr y) h
    exact ⟨u, n, run_then' h1 _, h2⟩
  | unOp op T x =>
    have hx := hr x
    revert h
    show funE op (r x) v → _
    unfold funE
    split
    · rename_i e; rw [e] at hx
      obtain ⟨p, q, hp⟩ := vs_f hx
      rintro rfl
      exact ⟨_, w.drawn, by simp [execOp, q, Op.unary], ⟨_, rfl, fneg_FO hp⟩⟩
    · rename_i e; rw [e] at hx
      obtain ⟨p, p', q, hp, hp'⟩ := vs_z hx
      rintro rfl
      exact ⟨_, w.drawn, by simp [execOp, q, Op.unary], ⟨_, _, rfl, fneg_FO hp, fneg_FO hp'⟩⟩
    · exact fun h => h.elim
  | convert s d x =>
    have hx := hr x
    revert h
    show fconvE P s d (r x) v → _
    unfold fconvE
    split
    · rename_i k n e; rw [e] at hx
      have q := vs_sc hx
      rintro ⟨h1, h2, rfl⟩
      cases e1 : P.underlying s with
      | none => exact absurd e1 h1
      | some ds => exact ⟨_, w.drawn, by simp [execOp, q, convert, run_underlying' e1, run_underlying' h2, Conv.intToFloat], ⟨_, rfl, rfl⟩⟩
    · rename_i a e; rw [e] at hx
      obtain ⟨p, q, hp⟩ := vs_f hx
      rintro ⟨h1, ⟨h2, rfl⟩ | ⟨k, p', n, h2, rfl, h3, h4, h5, rfl⟩⟩
      · exact ⟨_, w.drawn, by simp [execOp, q, convert, run_underlying' h1, run_underlying' h2, Conv.floatToFloat], ⟨_, rfl, hp⟩⟩
      · have hp : p = p' := hp
        subst hp
        exact ⟨_, w.drawn, by simp [execOp, q, convert, run_underlying' h1, run_underlying' h2, Conv.floatToInt, h3, h4, h5], rfl⟩
    · exact fun h => h.elim
  | call c =>
    obtain ⟨callee, args, tys⟩ := c
    revert h
    show (match callee with | .builtin b => fbuiltE b (args.toList.map r) v | _ => False) → _
    split
    · rename_i b
      unfold fbuiltE
      split
      · rename_i a1 a2 e
        obtain ⟨x, y, rfl, e1, e2⟩ : ∃ x y, args = #[x, y] ∧ r x = fv a1 ∧ r y = fv a2 := by
          obtain ⟨l⟩ := args
          rcases l with _ | ⟨x, _ | ⟨y, _ | ⟨z, l⟩⟩⟩ <;> simp only [List.map_cons, List.map_nil, List.cons.injEq, and_true, reduceCtorEq, and_false] at e
          exact ⟨x, y, rfl, e.1, e.2⟩
        have hx := hr x; rw [e1] at hx
        have hy := hr y; rw [e2] at hy
        obtain ⟨p, q, hp⟩ := vs_f hx
        obtain ⟨p', q', hp'⟩ := vs_f hy
        rintro rfl
        have hc : ∀ tys ty, (Builtin.complex_ tys ty #[.float .f64 p, .float .f64 p']).run P w = .ok (.complex .f64 p p') w := fun _ _ => rfl
        exact ⟨_, w.drawn, by simp [execOp, resolve, invoke, builtin, q, q', hc], ⟨_, _, rfl, hp, hp'⟩⟩
      · rename_i a1 a2 e
        obtain ⟨x, rfl, e1⟩ : ∃ x, args = #[x] ∧ r x = zv a1 a2 := by
          obtain ⟨l⟩ := args
          rcases l with _ | ⟨x, _ | ⟨y, l⟩⟩ <;> simp only [List.map_cons, List.map_nil, List.cons.injEq, and_true, reduceCtorEq, and_false] at e
          exact ⟨x, rfl, e⟩
        have hx := hr x; rw [e1] at hx
        obtain ⟨p, p', q, hp, hp'⟩ := vs_z hx
        rintro rfl
        have hc : ∀ tys ty, (Builtin.real_ tys ty #[.complex .f64 p p']).run P w = .ok (.float .f64 p) w := fun _ _ => rfl
        exact ⟨_, w.drawn, by simp [execOp, resolve, invoke, builtin, q, hc], ⟨_, rfl, hp⟩⟩
      · rename_i a1 a2 e
        obtain ⟨x, rfl, e1⟩ : ∃ x, args = #[x] ∧ r x = zv a1 a2 := by
          obtain ⟨l⟩ := args
          rcases l with _ | ⟨x, _ | ⟨y, l⟩⟩ <;> simp only [List.map_cons, List.map_nil, List.cons.injEq, and_true, reduceCtorEq, and_false] at e
          exact ⟨x, rfl, e⟩
        have hx := hr x; rw [e1] at hx
        obtain ⟨p, p', q, hp, hp'⟩ := vs_z hx
        rintro rfl
        have hc : ∀ tys ty, (Builtin.imag_ tys ty #[.complex .f64 p p']).run P w = .ok (.float .f64 p') w := fun _ _ => rfl
        exact ⟨_, w.drawn, by simp [execOp, resolve, invoke, builtin, q, hc], ⟨_, rfl, hp'⟩⟩
      · exact fun h => h.elim
    · exact fun h => h.elim
  | _ => exact h.elim

theorem PE_run (hr : ∀ x, VS w ρ S (r x) (η x)) {o : Oper} {v : AVal} (h : PE P r o.op v) :
    ∃ u n, (execOp η o).run P w = .ok (.value u) { w with drawn := n } ∧ VS w ρ S v u := by
  rcases h with h | h
  · obtain ⟨u, h1, h2⟩ := PE0_run (P := P) hr h
    exact ⟨u, w.drawn, h1, h2⟩
  · exact FE_run hr h

/-! ### Loads -/
def objCell (o : AObj) (i : Nat) : Option Cell :=
  match o with
  | .cells _ cs => cs[i]?
  | .ints _ k L => (L[i]?).map fun x => .sc (.int k x)
  | .acc .. => none
  | .fix _ => none
  | .row _ cs => cs[i]?

def loadE (P : Program) (S : Store) (t : TypeId) (a v : AVal) : Prop :=
  match a with
  | .c (.ptr m off) => ∃ o, S m = some o ∧ ((aggT P t = some true ∧ P.cellsOf t ≠ 0 ∧ ∃ ty cs, o = .cells ty cs ∧ off + P.cellsOf t ≤ cs.length ∧ v = .agg ((cs.drop off).take (P.cellsOf t))) ∨
      (aggT P t = some false ∧ ∃ x, objCell o off = some x ∧ v = .c x))
  | .c (.pim cs) => (aggT P t = some true ∧ P.cellsOf t ≠ 0 ∧ P.cellsOf t ≤ cs.length ∧ v = .agg ((cs.take (P.cellsOf t)).map Leaf.cell)) ∨ (aggT P t = some false ∧ ∃ x, cs[0]? = some x ∧ v = .c x.cell)
  | .accp m off => ∃ ty sz L i j c, S m = some (.acc ty sz L) ∧ off = i * sz + j ∧ L[i]? = some c ∧
      ((aggT P t = some true ∧ P.cellsOf t ≠ 0 ∧ j + P.cellsOf t ≤ c.length ∧ v = .agg ((c.drop j).take (P.cellsOf t))) ∨ (aggT P t = some false ∧ ∃ x, c[j]? = some x ∧ v = .c x))
  | _ => False

theorem LeafS.cellS {x : Leaf} {u : Value} (h : LeafS w (Fr w ρ S) x u) : CellS w ρ S x.cell u := by
  cases x with
  | sc c => cases h; rfl
  | ints k L => cases h with | ints h => exact h
  | intc k L n => cases h with | intc h => exact h
  | pim cs => exact h.pimS
  | seq sz L => exact h.seqS
  | seqc sz L n => exact h.seqcS
  | fx x => cases h with | fx h => exact h
theorem LeafS.one {x : Leaf} {u : Value} (h : LeafS w (Fr w ρ S) x u) : u.oneCell' = true := by
  cases h with
  | sc h => exact h
  | ints h => obtain ⟨A, cap, rfl, _⟩ := h; rfl
  | intc h => obtain ⟨A, cap, rfl, _⟩ := h; rfl
  | pim us hF h1 h2 => rfl
  | seq => rfl
  | seqc => rfl
  | fx h => exact FXS.one h

theorem cell_of_heap {b : Nat} {vs : Array Value} {ty : TypeId} {f : Nat × Nat} (h : w.heap[b]? = some (.cells vs ty f)) (o : Nat) : w.cell? ⟨b, o, none⟩ = vs[o]? := by
  simp [World.cell?, h]

theorem run_loadCells_at (b off : Nat) (us : List Value) (h : ∀ j u, us[j]? = some u → w.cell? ⟨b, off + j, none⟩ = some u) : (loadCells ⟨b, off, none⟩ us.length).run P w = .ok us.toArray w :=
  run_loadCells_list w _ us (fun j v hj => by rw [add_pl]; exact h j v hj)

theorem list_of_cells {n : Nat} {Q : Nat → Value → Prop} (h : ∀ j, j < n → ∃ u, Q j u) : ∃ us : List Value, us.length = n ∧ ∀ j u, us[j]? = some u → Q j u := by
  induction n with
  | zero => exact ⟨[], rfl, fun j u h => by simp at h⟩
  | succ n ih =>
    obtain ⟨us, h1, h2⟩ := ih (fun j hj => h j (by omega))
    obtain ⟨u, hu⟩ := h n (by omega)
    refine ⟨us ++ [u], by simp [h1], fun j v hj => ?_⟩
    rw [List.getElem?_append] at hj
    split at hj
    · exact h2 j v hj
    · have : j = n := by
        rcases Nat.lt_or_ge j (n + 1) with q | q
        · omega
        · rw [List.getElem?_eq_none (by simp; omega)] at hj; cases hj
      subst this
      simp [h1] at hj
      subst hj; exact hu

theorem loadE_run (he : EnvS w ρ S) {t : TypeId} {a v : AVal} {u : Value} (ha : VS w ρ S a u) (h : loadE P S t a v) :
    ∃ x, (Instr.loadAt t u).run P w = .ok x w ∧ VS w ρ S v x := by
  unfold loadE at h
  split at h
  · rename_i m off
    obtain ⟨-, rfl⟩ := ha
    obtain ⟨o, hm, ⟨h1, h2, ty, cs, rfl, h3, rfl⟩ | ⟨h1, x, h2, rfl⟩⟩ := h
    · obtain ⟨vs, q1, -, q2⟩ := he.obj m _ hm
      obtain ⟨us, l1, l2⟩ := list_of_cells (n := P.cellsOf t) (Q := fun j u => vs[off + j]? = some u ∧ ∀ x, cs[off + j]? = some x → u.oneCell' = true ∧ CellS w ρ S x u) (fun j hj => by
        obtain ⟨u, p1, p2, p3⟩ := q2 (off + j) _ (List.getElem?_eq_getElem (by omega))
        exact ⟨u, p1, fun x hx => by rw [List.getElem?_eq_getElem (by omega)] at hx; obtain rfl := Option.some.inj hx; exact ⟨p2, p3⟩⟩)
      have hl := run_loadCells_at (P := P) (w := w) (ρ m) off us (fun j u hu => by rw [cell_of_heap q1]; exact (l2 j u hu).1)
      rw [l1] at hl
      refine ⟨.agg us.toArray, by simp [Instr.loadAt, Instr.sureAddr, loadVar, run_isAgg' h1, run_sizeOf' h2, hl], us.toArray, rfl, by simp; omega, fun i x hi => ?_⟩
      have hlt : i < P.cellsOf t := by
        rcases Nat.lt_or_ge i (P.cellsOf t) with q | q
        · exact q
        · rw [List.getElem?_eq_none (by simp; omega)] at hi; cases hi
      rw [List.getElem?_take_of_lt hlt, List.getElem?_drop] at hi
      obtain ⟨-, p⟩ := l2 i _ (List.getElem?_eq_getElem (by omega))
      exact ⟨us[i], by simp, (p x hi).1, (p x hi).2⟩
    · have hc : ∃ u, w.cell? ⟨ρ m, off, none⟩ = some u ∧ CellS w ρ S x u := by
        have ho := he.obj m o hm
        cases o with
        | cells ty cs =>
          obtain ⟨vs, q1, -, q2⟩ := ho
          obtain ⟨u, p1, -, p3⟩ := q2 off x h2
          exact ⟨u, by rw [cell_of_heap q1]; exact p1, p3⟩
        | ints ty k L =>
          obtain ⟨vs, q1, q2⟩ := ho
          simp only [objCell, Option.map_eq_some_iff] at h2
          obtain ⟨y, p1, rfl⟩ := h2
          exact ⟨_, by rw [cell_of_heap q1]; exact q2 off y p1, rfl⟩
        | acc ty k L => cases h2
        | fix x => cases h2
        | row ty cs =>
          obtain ⟨vs, q1, q2⟩ := ho
          obtain ⟨u, p1, -, p3⟩ := q2 off x h2
          exact ⟨u, by rw [cell_of_heap q1]; exact p1, p3⟩
      obtain ⟨u, p1, p2⟩ := hc
      exact ⟨u, by simp [Instr.loadAt, Instr.sureAddr, loadVar, run_isAgg' h1, p1], p2⟩
  · rename_i cs
    obtain ⟨b, off, rfl, hf, hc⟩ := ha
    rcases h with ⟨h1, h2, h3, rfl⟩ | ⟨h1, x, h2, rfl⟩
    · obtain ⟨us, l1, l2⟩ := list_of_cells (n := P.cellsOf t) (Q := fun j u => w.cell? ⟨b, off + j, none⟩ = some u ∧ ∀ x, cs[j]? = some x → LeafS w (Fr w ρ S) x u) (fun j hj => by
        obtain ⟨u, p1, p2⟩ := hc j _ (List.getElem?_eq_getElem (by omega))
        exact ⟨u, p1, fun x hx => by rw [List.getElem?_eq_getElem (by omega)] at hx; obtain rfl := Option.some.inj hx; exact p2⟩)
      have hl := run_loadCells_at (P := P) (w := w) b off us (fun j u hu => (l2 j u hu).1)
      rw [l1] at hl
      refine ⟨.agg us.toArray, by simp [Instr.loadAt, Instr.sureAddr, loadVar, run_isAgg' h1, run_sizeOf' h2, hl], us.toArray, rfl, by simp; omega, fun i x hi => ?_⟩
      have hlt : i < P.cellsOf t := by
        rcases Nat.lt_or_ge i (P.cellsOf t) with q | q
        · exact q
        · rw [List.getElem?_eq_none (by simp; omega)] at hi; cases hi
      rw [List.getElem?_map, List.getElem?_take_of_lt hlt] at hi
      obtain ⟨-, p⟩ := l2 i _ (List.getElem?_eq_getElem (by omega))
      cases e : cs[i]? with
      | none => rw [e] at hi; cases hi
      | some y =>
        rw [e] at hi
        simp only [Option.map_some, Option.some.injEq] at hi
        subst hi
        exact ⟨us[i], by simp, (p y e).one, (p y e).cellS⟩
    · obtain ⟨u, p1, p2⟩ := hc 0 x h2
      rw [Nat.add_zero] at p1
      exact ⟨u, by simp [Instr.loadAt, Instr.sureAddr, loadVar, run_isAgg' h1, p1], p2.cellS⟩
  · rename_i m off
    obtain ⟨ty, sz, L, i, j, c, hm, rfl, hL, h⟩ := h
    obtain ⟨ty', sz', L', hm', hne, rfl⟩ := ha
    rw [hm] at hm'
    simp only [Option.some.injEq, AObj.acc.injEq] at hm'
    obtain ⟨rfl, rfl, rfl⟩ := hm'
    rcases he.obj m _ hm with q | ⟨vs, q1, -, q2⟩
    · exact absurd q hne
    rcases h with ⟨h1, h2, h3, rfl⟩ | ⟨h1, x, h2, rfl⟩
    · obtain ⟨us, l1, l2⟩ := list_of_cells (n := P.cellsOf t) (Q := fun p u => vs[i * sz + j + p]? = some u ∧ ∀ x, c[j + p]? = some x → u.oneCell' = true ∧ CellS w ρ S x u) (fun p hp => by
        obtain ⟨u, p1, p2, p3⟩ := q2 i c (j + p) _ hL (List.getElem?_eq_getElem (by omega))
        exact ⟨u, by rw [Nat.add_assoc]; exact p1, fun x hx => by rw [List.getElem?_eq_getElem (by omega)] at hx; obtain rfl := Option.some.inj hx; exact ⟨p2, p3⟩⟩)
      have hl := run_loadCells_at (P := P) (w := w) (ρ m) (i * sz + j) us (fun p u hu => by rw [cell_of_heap q1]; exact (l2 p u hu).1)
      rw [l1] at hl
      refine ⟨.agg us.toArray, by simp [Instr.loadAt, Instr.sureAddr, loadVar, run_isAgg' h1, run_sizeOf' h2, hl], us.toArray, rfl, by simp; omega, fun p x hi => ?_⟩
      have hlt : p < P.cellsOf t := by
        rcases Nat.lt_or_ge p (P.cellsOf t) with q | q
        · exact q
        · rw [List.getElem?_eq_none (by simp; omega)] at hi; cases hi
      rw [List.getElem?_take_of_lt hlt, List.getElem?_drop] at hi
      obtain ⟨-, p⟩ := l2 p _ (List.getElem?_eq_getElem (by omega))
      exact ⟨us[_], by simp, (p x hi).1, (p x hi).2⟩
    · obtain ⟨u, p1, -, p3⟩ := q2 i c j x hL h2
      exact ⟨u, by simp [Instr.loadAt, Instr.sureAddr, loadVar, run_isAgg' h1, cell_of_heap q1, p1], p3⟩
  · exact h.elim
end
end Go.Abs

/-
  New blocks, stores, appends: what they leave, and that it stands.
-/
namespace Go.Abs
open Go

theorem upd_same (S : Store) (m : Nm) (o : AObj) : upd S m o m = some o := by simp [upd]
theorem upd_ne (S : Store) {m n : Nm} (o : AObj) (h : n ≠ m) : upd S m o n = S n := by simp [upd, h]

section
variable {P : Program} {w : World} {ρ : Nm → Nat} {S : Store} {r : Operand → AVal} {η : Operand → Value}

/-! ### A new block -/
def setN (ρ : Nm → Nat) (n : Nm) (b : Nat) : Nm → Nat := fun m => if m = n then b else ρ m

theorem heap_alloc_old (w : World) (o : Obj) {b : Nat} (h : b < w.heap.size) : (w.alloc o).heap[b]? = w.heap[b]? := RowKit.Below.heap_alloc w o b h
theorem heap_alloc_at (w : World) (o : Obj) : (w.alloc o).heap[w.heap.size]? = some o := heap_alloc_new w o

theorem EnvS.lt (he : EnvS w ρ S) {m : Nm} {o : AObj} (h : S m = some o) (hr : o.real = true) : ρ m < w.heap.size := by
  have ho := he.obj m o h
  have : ∃ x, w.heap[ρ m]? = some x := by
    cases o with
    | cells ty cs => obtain ⟨vs, q, _⟩ := ho; exact ⟨_, q⟩
    | ints ty k L => obtain ⟨vs, q, _⟩ := ho; exact ⟨_, q⟩
    | fix x => exact ⟨_, ho⟩
    | row ty cs => obtain ⟨vs, q, _⟩ := ho; exact ⟨_, q⟩
    | acc ty k L =>
      rcases ho with rfl | ⟨vs, q, _⟩
      · cases hr
      · exact ⟨_, q⟩
  obtain ⟨x, hx⟩ := this
  exact (Array.getElem?_eq_some_iff.1 hx).1

structure New (w w' : World) (n : Nm) (o : Obj) : Prop where
  os : w'.os = w.os
  tape : w'.tape = w.tape
  output : w'.output = w.output
  size : w'.heap.size = w.heap.size + 1
  old : ∀ b, b < w.heap.size → w'.heap[b]? = w.heap[b]?
  new : w'.heap[w.heap.size]? = some o

theorem New.of_alloc (w : World) (n : Nm) (o : Obj) : New w (w.alloc o) n o := ⟨rfl, rfl, rfl, by simp, fun _ h => heap_alloc_old w o h, heap_alloc_at w o⟩

theorem New.ext {w' : World} {n : Nm} {o : Obj} (h : New w w' n o) (he : EnvS w ρ S) (hn : S n = none) (ob : AObj) : Ext (fun _ => False) w ρ S w' (setN ρ n w.heap.size) (upd S n ob) where
  os := h.os
  tape := h.tape
  output := h.output
  size := by rw [h.size]; omega
  old b hb _ := h.old b hb
  nms m o' hm hr := by
    by_cases e : m = n
    · subst e; exact .inr (by simp [setN])
    · rw [upd_ne S ob e] at hm
      exact .inl ⟨o', hm, hr, by simp [setN, e]⟩
  kp m o hm hr := by
    have e : m ≠ n := fun e => by subst e; rw [hn] at hm; cases hm
    exact ⟨o, by rw [upd_ne S ob e]; exact hm, hr, by simp [setN, e]⟩
  szs m o _ hm hr ty q hq := by
    obtain ⟨vs, h1, h2⟩ := hq
    exact ⟨vs, by rw [h.old _ (he.lt hm hr)]; exact h1, h2⟩
  acc m ty k L _ hm := by
    have e : m ≠ n := fun e => by subst e; rw [hn] at hm; cases hm
    exact ⟨by rw [upd_ne S ob e]; exact hm, fun _ => by simp [setN, e]⟩
  nx _ h := h.elim

theorem ObjS.ext {X : Nm → Prop} {w' : World} {ρ' : Nm → Nat} {S' : Store} (h : Ext X w ρ S w' ρ' S') {b b' : Nat} {o : AObj} (hb : ∀ x, w.heap[b]? = some x → w'.heap[b']? = some x)
(ho : ObjS w ρ S b o) : ObjS w' ρ' S' b' o := by
  cases o with
  | cells ty cs =>
    obtain ⟨vs, q1, q0, q2⟩ := ho
    refine ⟨vs, hb _ q1, q0, fun i x hi => ?_⟩
    obtain ⟨u, p1, p2, p3⟩ := q2 i x hi
    exact ⟨u, p1, p2, p3.ext h⟩
  | fix x => exact hb _ ho
  | row ty cs =>
    obtain ⟨vs, q1, q2⟩ := ho
    refine ⟨vs, hb _ q1, fun i x hi => ?_⟩
    obtain ⟨u, p1, p2, p3⟩ := q2 i x hi
    exact ⟨u, p1, p2, p3.ext h⟩
  | ints ty k L => obtain ⟨vs, q1, q2⟩ := ho; exact ⟨vs, hb _ q1, q2⟩
  | acc ty k L =>
    rcases ho with e | ⟨vs, q1, q2⟩
    · exact .inl e
    · refine .inr ⟨vs, hb _ q1, q2.1, fun i c j x hi hj => ?_⟩
      obtain ⟨u, p1, p2, p3⟩ := q2.2 i c j x hi hj
      exact ⟨u, p1, p2, p3.ext h⟩

theorem New.env {w' : World} {n : Nm} {o : Obj} (h : New w w' n o) (he : EnvS w ρ S) (hn : S n = none) {ob : AObj}
    (hob : ObjS w' (setN ρ n w.heap.size) (upd S n ob) w.heap.size ob) : EnvS w' (setN ρ n w.heap.size) (upd S n ob) where
  inj m m' o1 o2 h1 h2 r1 r2 e := by
    by_cases e1 : m = n <;> by_cases e2 : m' = n
    · rw [e1, e2]
    · rw [upd_ne S ob e2] at h2
      have := he.lt h2 r2
      simp only [setN, e1, e2, if_true, if_false] at e; omega
    · rw [upd_ne S ob e1] at h1
      have := he.lt h1 r1
      simp only [setN, e1, e2, if_true, if_false] at e; omega
    · rw [upd_ne S ob e1] at h1
      rw [upd_ne S ob e2] at h2
      simp only [setN, e1, e2, if_false] at e
      exact he.inj m m' o1 o2 h1 h2 r1 r2 e
  obj m o1 h1 := by
    by_cases e1 : m = n
    · subst e1
      rw [upd_same] at h1
      obtain rfl := Option.some.inj h1
      simpa [setN] using hob
    · rw [upd_ne S ob e1] at h1
      simp only [setN, e1, if_false]
      have ho := he.obj m o1 h1
      by_cases hr : o1.real = true
      · refine ho.ext (h.ext he hn ob) (fun x hx => ?_)
        rw [h.old _ (he.lt h1 hr)]; exact hx
      · cases o1 with
        | acc ty k L => cases L with | nil => exact .inl rfl | cons a l => exact absurd rfl hr
        | cells ty cs => exact absurd rfl hr
        | ints ty k L => exact absurd rfl hr
        | fix x => exact absurd rfl hr
        | row ty cs => exact absurd rfl hr

theorem CellsS.obj {w' : World} {n : Nm} {ty : TypeId} {cs : List Cell} {vs : Array Value} (h : New w w' n (.cells vs ty)) (he : EnvS w ρ S) (hn : S n = none) (hc : CellsS w ρ S cs vs.toList) :
    ObjS w' (setN ρ n w.heap.size) (upd S n (.cells ty cs)) w.heap.size (.cells ty cs) := by
  refine ⟨vs, h.new, by simpa using hc.1.symm, fun i x hi => ?_⟩
  obtain ⟨u, h1, h2, h3⟩ := hc.2 i x hi
  exact ⟨u, by simpa using h1, h2, h3.ext (h.ext he hn _)⟩

/-! ### Operations that make a block -/
def rep (n : Nat) (cs : List Cell) : List Cell := (List.replicate n cs).flatten

def intsOf (k : IntKind) (L : List Int) : List Cell := L.map fun x => .sc (.int k x)

def newE (P : Program) (r : Operand → AVal) (d : Nat) (op : Op) (v : AVal) (ob : AObj) : Prop :=
  match op with
  | .alloc e => ∃ z, zeroCells P e = some z ∧ (∀ x ∈ z, x.solid) ∧ v = .c (.ptr (.loc d) 0) ∧ ob = .cells e z
  | .box e x => (r x).solid ∧ v = .c (.ptr (.loc d) 0) ∧ ob = .cells e (r x).cells
  | .buildSlice t n ps => ∃ e z out, P.underlying t = some (.slice e) ∧ P.cellsOf e ≠ 0 ∧ n * P.cellsOf e ≤ 2 ^ 24 ∧ zeroCells P e = some z ∧ z.length = P.cellsOf e ∧ (∀ x ∈ z, x.solid) ∧
      fillE (fun i => some (i * P.cellsOf e, P.cellsOf e)) r (rep n z) ps.toList out ∧
      ((v = .c (.win (.loc d) 0 n n) ∧ (ob = .cells e out ∨ ∃ k L, out = intsOf k L ∧ ob = .ints e k L)) ∨ (∃ R, out = R.flatten ∧ R.length = n ∧ (∀ c ∈ R, c.length = P.cellsOf e) ∧ v = .accv (.loc d) n ∧ ob = .acc e (P.cellsOf e) R))
  | .makeSlice t l c => ∃ e z, P.underlying t = some (.slice e) ∧ P.cellsOf e ≠ 0 ∧ zeroCells P e = some z ∧ z.length = P.cellsOf e ∧ (∀ x ∈ z, x.solid) ∧
      match r l, r c with
      | .c (.sc (.int _ a)), .c (.sc (.int _ b)) => 0 ≤ a ∧ a ≤ b ∧ (P.bytesOf e : Int) * b ≤ 281474976710656 ∧ b ≤ 9223372036854775807 ∧
          ((v = .c (.win (.loc d) 0 a.toNat b.toNat) ∧ (ob = .cells e (rep b.toNat z) ∨ ∃ k x, z = [.sc (.int k x)] ∧ ob = .ints e k (List.replicate b.toNat x))) ∨
          (a = b ∧ v = .accv (.loc d) b.toNat ∧ ob = .acc e (P.cellsOf e) (List.replicate b.toNat z)))
      | _, _ => False
  | _ => False

theorem rep_get {z : List Cell} {n : Nat} {i : Nat} (hz : z ≠ []) (hi : i < n * z.length) : (rep n z)[i]? = z[i % z.length]? := by
  unfold rep
  induction n generalizing i with
  | zero => simp at hi
  | succ n ih =>
    rw [List.replicate_succ, List.flatten_cons]
    have hp : 0 < z.length := List.length_pos_iff.2 hz
    rcases Nat.lt_or_ge i z.length with q | q
    · rw [List.getElem?_append_left q, Nat.mod_eq_of_lt q]
    · rw [List.getElem?_append_right q, ih (by rw [Nat.add_mul] at hi; omega), Nat.mod_eq_sub_mod q]

theorem rep_length (n : Nat) (z : List Cell) : (rep n z).length = n * z.length := by
  unfold rep; simp [List.length_flatten]

theorem rep_cells {z : List Cell} {zs : Array Value} (h : CellsS w ρ S z zs.toList) (hz : z ≠ []) (n : Nat) :
    CellsS w ρ S (rep n z) ((Array.range (n * z.length)).map (fun i => zs[i % zs.size]!)).toList := by
  have e1 := h.1
  have hp : 0 < z.length := List.length_pos_iff.2 hz
  refine ⟨by simp [rep_length], fun i x hi => ?_⟩
  have hlt : i < n * z.length := by
    rcases Nat.lt_or_ge i (n * z.length) with q | q
    · exact q
    · rw [List.getElem?_eq_none (by rw [rep_length]; exact q)] at hi; cases hi
  rw [rep_get hz hlt] at hi
  obtain ⟨u, h1, h2, h3⟩ := h.2 _ x hi
  have e2 : zs.size = z.length := by simpa using e1.symm
  refine ⟨u, ?_, h2, h3⟩
  have hm : i % z.length < zs.size := by rw [e2]; exact Nat.mod_lt _ hp
  have h1' : zs[i % z.length]! = u := by
    rw [getElem!_pos zs _ hm]
    have : zs[i % z.length]? = some u := by simpa using h1
    rw [Array.getElem?_eq_getElem hm] at this
    exact Option.some.inj this
  simp [hlt, e2, h1']

theorem rowS_of_cells {w' : World} {b : Nat} {ty : TypeId} {k : IntKind} {L : List Int} (h : ObjS w' ρ S b (.cells ty (intsOf k L))) : RowS w' b ty k L := by
  obtain ⟨vs, h1, -, h2⟩ := h
  refine ⟨vs, h1, fun i x hi => ?_⟩
  obtain ⟨u, p1, _, p3⟩ := h2 i (.sc (.int k x)) (by simp [intsOf, hi])
  have : u = .int k x := p3
  rw [← this]; exact p1

theorem flat_get {sz : Nat} : ∀ {R : List (List Cell)} {i j : Nat} {c : List Cell} {x : Cell}, (∀ c ∈ R, c.length = sz) → R[i]? = some c → c[j]? = some x → R.flatten[i * sz + j]? = some x
  | a :: R, 0, j, c, x, hz, hi, hj => by
    simp only [List.getElem?_cons_zero, Option.some.injEq] at hi
    subst hi
    have := (List.getElem?_eq_some_iff.1 hj).1
    rw [List.flatten_cons, Nat.zero_mul, Nat.zero_add, List.getElem?_append_left this]; exact hj
  | a :: R, i + 1, j, c, x, hz, hi, hj => by
    have ha := hz a (by simp)
    rw [List.flatten_cons, List.getElem?_append_right (by rw [ha, Nat.add_mul]; omega), ha, show (i + 1) * sz + j - sz = i * sz + j by rw [Nat.add_mul]; omega]
    exact flat_get (fun c hc => hz c (by simp [hc])) (by simpa using hi) hj
  | [], i, j, c, x, hz, hi, hj => by simp at hi
theorem rowsS_of_cells {w' : World} {b sz : Nat} {ty : TypeId} {R : List (List Cell)} (hz : ∀ c ∈ R, c.length = sz) (h : ObjS w' ρ S b (.cells ty R.flatten)) : RowsS w' ρ S b ty sz R := by
  obtain ⟨vs, h1, -, h2⟩ := h
  refine ⟨vs, h1, hz, fun i c j x hi hj => h2 _ x (flat_get hz hi hj)⟩
theorem flat_len {sz : Nat} : ∀ {R : List (List Cell)}, (∀ c ∈ R, c.length = sz) → R.flatten.length = R.length * sz
  | [], _ => by simp
  | a :: R, hz => by
    rw [List.flatten_cons, List.length_append, flat_len (fun c hc => hz c (by simp [hc])), hz a (by simp), List.length_cons, Nat.add_mul]; omega
theorem flat_ir (k : IntKind) : ∀ L : List Int, (ir k L).flatten = intsOf k L
  | [] => rfl
  | a :: L => by have ih := flat_ir k L; simp only [ir, intsOf, List.map_cons, List.flatten_cons] at *; rw [ih]; rfl

theorem CellsS.objA {w' : World} {n : Nm} {ty : TypeId} {sz : Nat} {R : List (List Cell)} {vs : Array Value} (h : New w w' n (.cells vs ty)) (he : EnvS w ρ S) (hn : S n = none) (hz : ∀ c ∈ R, c.length = sz) (hc : CellsS w ρ S R.flatten vs.toList) :
    RowsS w' (setN ρ n w.heap.size) (upd S n (.acc ty sz R)) w.heap.size ty sz R := by
  refine rowsS_of_cells hz ⟨vs, h.new, by simpa using hc.1.symm, fun i x hi => ?_⟩
  obtain ⟨u, h1, h2, h3⟩ := hc.2 i x hi
  exact ⟨u, by simpa using h1, h2, h3.ext (h.ext he hn _)⟩

theorem newE_run (he : EnvS w ρ S) (hr : ∀ x, VS w ρ S (r x) (η x)) {o : Oper} {d : Nat} {v : AVal} {ob : AObj} (hn : S (.loc d) = none) (h : newE P r d o.op v ob) :
    ∃ u vs ty, (execOp η o).run P w = .ok (.value u) (w.alloc (.cells vs ty)) ∧ EnvS (w.alloc (.cells vs ty)) (setN ρ (.loc d) w.heap.size) (upd S (.loc d) ob) ∧
      VS (w.alloc (.cells vs ty)) (setN ρ (.loc d) w.heap.size) (upd S (.loc d) ob) v u := by
  obtain ⟨dst, op, ty, pos, after, guard⟩ := o
  have fin : ∀ (vs : Array Value) (e : TypeId) (cs : List Cell), CellsS w ρ S cs vs.toList → (ob = .cells e cs ∨ ∃ k L, cs = intsOf k L ∧ ob = .ints e k L) →
      EnvS (w.alloc (.cells vs e)) (setN ρ (.loc d) w.heap.size) (upd S (.loc d) ob) := by
    intro vs e cs hc hob
    have hnew := New.of_alloc w (.loc d) (.cells vs e)
    rcases hob with rfl | ⟨k, L, rfl, rfl⟩
    · exact hnew.env he hn (hc.obj hnew he hn)
    · exact hnew.env he hn (rowS_of_cells (hc.obj hnew he hn))
  have hreal : ∀ e cs, (ob = .cells e cs ∨ ∃ k L, cs = intsOf k L ∧ ob = .ints e k L) → ob.isAcc = false := by
    rintro e cs (rfl | ⟨k, L, -, rfl⟩) <;> rfl
  cases op with
  | alloc e =>
    obtain ⟨z, h1, h2, rfl, rfl⟩ := h
    obtain ⟨zv, h3, h4⟩ := zero_cells (w := w) (ρ := ρ) (S := S) h1 h2
    exact ⟨.pointer (some ⟨w.heap.size, 0, none⟩), zv.cells, e, by simp [execOp, Instr.alloc, run_zeroOf h3, newVar, newRow], fin _ _ _ h4 (.inl rfl), ⟨_, upd_same _ _ _, rfl⟩, by simp [setN]⟩
  | box e x =>
    obtain ⟨h1, rfl, rfl⟩ := h
    have h4 := solid_cells h1 (hr x)
    exact ⟨.pointer (some ⟨w.heap.size, 0, none⟩), (η x).cells, e, by simp [execOp, Instr.box, newVar, newRow], fin _ _ _ h4 (.inl rfl), ⟨_, upd_same _ _ _, rfl⟩, by simp [setN]⟩
  | buildSlice t n ps =>
    obtain ⟨e, z, out, h1, h2, h3, h4, h5, h6, h7, h8⟩ := h
    obtain ⟨zv, h9, h10⟩ := zero_cells (w := w) (ρ := ρ) (S := S) h4 h6
    have hz : z ≠ [] := by rintro rfl; exact h2 h5.symm
    obtain ⟨us, h11, h12⟩ := fillE_run hr ps.toList (rep n z) out _ (rep_cells h10 hz n) h7
    have hl : ∀ (ps : List (Nat × Operand)) (cs out : List Cell), fillE (fun i => some (i * P.cellsOf e, P.cellsOf e)) r cs ps out → out.length = cs.length := by
      intro ps
      induction ps with
      | nil => intro cs out h; simp only [fillE] at h; rw [h]
      | cons p ps ih =>
        obtain ⟨i, x⟩ := p
        rintro cs out ⟨off, size, -, -, q1, q2, q3⟩
        rw [ih _ _ q3]
        simp [Abs.spl, q1]; omega
    have hl2 := hl _ _ _ h7
    rw [rep_length, h5] at hl2
    have hq : us.size = n * P.cellsOf e := by have := h12.1; simp at this; omega
    rw [h5] at h11
    have hrun : (execOp η ⟨dst, .buildSlice t n ps, ty, pos, after, guard⟩).run P w = .ok (.value (.slice (some ⟨w.heap.size, 0, none⟩) n n)) (w.alloc (.cells us e)) := by
      have h3' : ¬ (16777216 < n * P.cellsOf e) := by omega
      have h11' : Instr.fill (fun i => some (i * P.cellsOf e, P.cellsOf e)) ((Array.range (n * P.cellsOf e)).map (fun i => zv.cells[i % zv.cells.size]!)) (ps.map fun p => (p.1, η p.2)).toList = some us := by
        simpa using h11
      by_cases h0 : n * P.cellsOf e = 0
      · have hn0 : n = 0 := by rcases Nat.mul_eq_zero.1 h0 with q | q; exact q; exact absurd q h2
        subst hn0
        have h11'' := h11'
        simp only [Nat.zero_mul, Array.range_zero', Array.map_empty, Array.toList_map] at h11''
        simp [execOp, Instr.buildSlice, run_underlying' h1, run_sizeOf' h2, Array.range_zero', newRow, h11'']
      · simp only [execOp, Instr.buildSlice, Sem.run_bind, run_underlying' h1, run_sizeOf' h2, Result.andThen_ok, Sem.run_ite, run_zeroOf h9, h0, if_false, Sem.run_pure]
        rw [if_neg (by simpa using h3')]
        simp only [Result.andThen_ok, Sem.run_pure, h11', newRow, Sem.run_bind, run_newObj, World.alloc_eq]
    rcases h8 with ⟨rfl, h8⟩ | ⟨R, rfl, hRn, hRz, rfl, rfl⟩
    · refine ⟨.slice (some ⟨w.heap.size, 0, none⟩) n n, us, e, hrun, fin _ _ _ h12 h8, ⟨_, upd_same _ _ _, hreal _ _ h8⟩, _, _, rfl, Nat.le_refl _, Nat.le_refl _, fun _ => ⟨by simp [setN], e, us.size, ⟨us, by simp only [setN, if_true]; exact heap_alloc_at _ _, rfl⟩, ?_⟩⟩
      rw [hq, Nat.zero_add]
      exact Nat.le_mul_of_pos_right _ (by omega)
    · have hnew := New.of_alloc w (.loc d) (.cells us e)
      have hrow := h12.objA hnew he hn hRz
      refine ⟨.slice (some ⟨w.heap.size, 0, none⟩) n n, us, e, hrun, hnew.env he hn (.inr hrow), e, _, _, upd_same _ _ _, hRn, ?_⟩
      by_cases h0 : n = 0
      · exact .inl ⟨List.eq_nil_of_length_eq_zero (by omega), _, by rw [h0]⟩
      · refine .inr ⟨fun q => by rw [q] at hRn; exact h0 hRn.symm, n, by simp [setN, hRn], by omega, ?_, _, by simp only [setN, if_true]; exact heap_alloc_at _ _, by rw [hq]⟩
        have : n ≤ n * P.cellsOf e := Nat.le_mul_of_pos_right _ (by omega)
        simp only [maxLen]; omega
  | makeSlice t l c =>
    obtain ⟨e, z, h1, h2, h4, h5, h6, h7⟩ := h
    obtain ⟨zv, h9, h10⟩ := zero_cells (w := w) (ρ := ρ) (S := S) h4 h6
    have hz : z ≠ [] := by rintro rfl; exact h2 h5.symm
    split at h7
    · rename_i kl a kc b el ec
      obtain ⟨g1, g2, g3, g4, h78⟩ := h7
      have e1 := hr l; rw [el] at e1; have e1 := vs_sc e1
      have e2 := hr c; rw [ec] at e2; have e2 := vs_sc e2
      have hrepi : ∀ (k : IntKind) (x : Int) (q : Nat), rep q [Cell.sc (.int k x)] = intsOf k (List.replicate q x) := by
        intro k x q
        unfold rep intsOf
        rw [List.map_replicate]
        induction q with
        | zero => rfl
        | succ q ih => rw [List.replicate_succ, List.flatten_cons, ih]; rfl
      unfold zeroOf at h9
      cases ei : P.info? e with
      | none => rw [ei] at h9; cases h9
      | some i =>
        rw [ei] at h9
        have hz' : i.zero = some zv := h9
        have hsz : P.cellsOf e = i.size := by simp [Program.cellsOf, ei]
        have hby : P.bytesOf e = i.bytes := by simp [Program.bytesOf, ei]
        have hm := run_make (P := P) w t e i zv h1 ei hz' kl kc a b g1 g2 (by rw [← hby]; exact g3) g4
        have hrc := rep_cells h10 hz b.toNat
        rw [h5, hsz] at hrc
        rcases h78 with ⟨rfl, h8⟩ | ⟨rfl, rfl, rfl⟩
        · have h8' : ob = .cells e (rep b.toNat z) ∨ ∃ k L, rep b.toNat z = intsOf k L ∧ ob = .ints e k L := by
            rcases h8 with rfl | ⟨k, x, rfl, rfl⟩
            · exact .inl rfl
            · exact .inr ⟨k, _, hrepi k x _, rfl⟩
          refine ⟨.slice (some ⟨w.heap.size, 0, none⟩) a.toNat b.toNat, madeCells zv.cells (b.toNat * i.size), e, by simp only [execOp, e1, e2, Sem.run_bind, hm, Result.andThen_ok, Sem.run_pure], fin _ _ _ hrc h8', ⟨_, upd_same _ _ _, hreal _ _ h8'⟩, _, _, rfl, by omega, Nat.le_refl _, fun _ => ⟨by simp [setN], e, _, ⟨_, by simp only [setN, if_true]; exact heap_alloc_at _ _, rfl⟩, ?_⟩⟩
          rw [Nat.zero_add, madeCells]
          simp only [Array.size_map, Array.size_range]
          exact Nat.le_mul_of_pos_right _ (by omega)
        · have hnew := New.of_alloc w (.loc d) (.cells (madeCells zv.cells (a.toNat * i.size)) e)
          have hrow := CellsS.objA (sz := P.cellsOf e) (R := List.replicate a.toNat z) hnew he hn (fun c hc => by rw [(List.mem_replicate.1 hc).2]; exact h5) hrc
          refine ⟨.slice (some ⟨w.heap.size, 0, none⟩) a.toNat a.toNat, madeCells zv.cells (a.toNat * i.size), e, by simp only [execOp, e1, e2, Sem.run_bind, hm, Result.andThen_ok, Sem.run_pure], hnew.env he hn (.inr hrow), e, _, _, upd_same _ _ _, by simp, ?_⟩
          by_cases h0 : a.toNat = 0
          · exact .inl ⟨by rw [h0]; rfl, _, by rw [h0]⟩
          · refine .inr ⟨by simp [h0], a.toNat, by simp [setN], by simp, by simp only [maxLen]; omega, _, by simp only [setN, if_true]; exact heap_alloc_at _ _, by simp [madeCells, hsz]⟩
    · exact h7.elim
  | _ => exact h.elim
end
end Go.Abs

/-
  Stores and appends.
-/
namespace Go.Abs
open Go

theorem setRow_other (w : World) (g : Nat) (cs : Array Value) {b : Nat} (h : b ≠ g) : (w.setRow g cs).heap[b]? = w.heap[b]? := by
  simp only [World.setRow, Array.getElem?_modify]
  rw [if_neg (fun e => h e.symm)]

section
variable {P : Program} {w : World} {ρ : Nm → Nat} {S : Store} {r : Operand → AVal} {η : Operand → Value}

structure Put (w w' : World) (g : Nat) (vs : Array Value) (ty : TypeId) : Prop where
  os : w'.os = w.os
  tape : w'.tape = w.tape
  output : w'.output = w.output
  size : w'.heap.size = w.heap.size
  old : ∀ b, b ≠ g → w'.heap[b]? = w.heap[b]?
  at_ : w'.heap[g]? = some (.cells vs ty (0, 0))

theorem Put.of_setRow {g : Nat} {cur : Array Value} {ty : TypeId} (h : w.heap[g]? = some (.cells cur ty (0, 0))) (cs : Array Value) : Put w (w.setRow g cs) g cs ty :=
  ⟨rfl, rfl, rfl, by simp [World.setRow], fun _ hb => setRow_other w g cs hb, setRow_heap w g cur cs ty (0, 0) h⟩

theorem Put.ext {w' : World} {m : Nm} {vs cur : Array Value} {ty : TypeId} (h : Put w w' (ρ m) vs ty) {o o' : AObj} (hm : S m = some o) (ha : o.isAcc = false) (ha' : o'.isAcc = false)
    (hc : w.heap[ρ m]? = some (.cells cur ty (0, 0))) (hs : vs.size = cur.size) : Ext (fun _ => False) w ρ S w' ρ (upd S m o') where
  os := h.os
  tape := h.tape
  output := h.output
  size := by rw [h.size]; exact Nat.le_refl _
  old b hb hn := h.old b (fun e => hn m o hm (AObj.real_of ha) e.symm)
  nms n q hn hr := by
    by_cases e : n = m
    · subst e; exact .inl ⟨o, hm, AObj.real_of ha, rfl⟩
    · rw [upd_ne S o' e] at hn; exact .inl ⟨q, hn, hr, rfl⟩
  kp n q hn hr := by
    by_cases e : n = m
    · subst e; exact ⟨o', upd_same _ _ _, ha', rfl⟩
    · exact ⟨q, by rw [upd_ne S o' e]; exact hn, hr, rfl⟩
  szs n q _ hn hr t k hk := by
    by_cases e : ρ n = ρ m
    · obtain ⟨us, h1, h2⟩ := hk
      rw [e] at h1 ⊢
      rw [hc] at h1
      injection h1 with h1
      injection h1 with h1 h3
      subst h1 h3
      exact ⟨vs, h.at_, by rw [hs, h2]⟩
    · obtain ⟨us, h1, h2⟩ := hk
      exact ⟨us, by rw [h.old _ e]; exact h1, h2⟩
  acc n t k L _ hn := by
    have e : n ≠ m := fun e => by subst e; rw [hm] at hn; injection hn with hn; subst hn; cases ha
    exact ⟨by rw [upd_ne S o' e]; exact hn, fun _ => rfl⟩
  nx _ h := h.elim

theorem Put.env {w' : World} {m : Nm} {vs cur : Array Value} {ty : TypeId} (h : Put w w' (ρ m) vs ty) (he : EnvS w ρ S) {o o' : AObj} (hm : S m = some o) (ha : o.isAcc = false) (ha' : o'.isAcc = false)
    (hc : w.heap[ρ m]? = some (.cells cur ty (0, 0))) (hs : vs.size = cur.size) (ho : ObjS w' ρ (upd S m o') (ρ m) o') : EnvS w' ρ (upd S m o') where
  inj a b o1 o2 h1 h2 r1 r2 e := by
    have aux : ∀ {a : Nm} {q : AObj}, upd S m o' a = some q → q.real = true → ∃ q', S a = some q' ∧ q'.real = true := by
      intro a q h1 h2
      by_cases e : a = m
      · subst e; exact ⟨o, hm, AObj.real_of ha⟩
      · rw [upd_ne S o' e] at h1; exact ⟨q, h1, h2⟩
    obtain ⟨q1, a1, b1⟩ := aux h1 r1
    obtain ⟨q2, a2, b2⟩ := aux h2 r2
    exact he.inj a b q1 q2 a1 a2 b1 b2 e
  obj a q hq := by
    by_cases e : a = m
    · subst e
      rw [upd_same] at hq
      obtain rfl := Option.some.inj hq
      exact ho
    · rw [upd_ne S o' e] at hq
      have h1 := he.obj a q hq
      by_cases hr : q.real = true
      · refine h1.ext (h.ext hm ha ha' hc hs) (fun x hx => ?_)
        rw [h.old _ (fun e2 => e (he.inj a m q o hq hm hr (AObj.real_of ha) e2))]; exact hx
      · cases q with
        | acc ty k L => cases L with | nil => exact .inl rfl | cons a l => exact absurd rfl hr
        | cells ty cs => exact absurd rfl hr
        | ints ty k L => exact absurd rfl hr
        | fix x => exact absurd rfl hr
        | row ty cs => exact absurd rfl hr

def storeE (P : Program) (S : Store) (t : TypeId) (a x : AVal) (S' : Store) : Prop :=
  match a with
  | .c (.ptr m off) => (∃ ty cs, S m = some (.cells ty cs) ∧ x.solid ∧ P.cellsOf t ≠ 0 ∧ x.cells.length = P.cellsOf t ∧ off + x.cells.length ≤ cs.length ∧ S' = upd S m (.cells ty (spl cs off x.cells))) ∨
      (∃ ty k L y, S m = some (.ints ty k L) ∧ P.cellsOf t = 1 ∧ x = ivl k y ∧ off < L.length ∧ S' = upd S m (.ints ty k (L.set off y))) ∨
      (∃ ty cs y, S m = some (.row ty cs) ∧ P.cellsOf t = 1 ∧ x = .c y ∧ y.solid ∧ off < cs.length ∧ S' = upd S m (.row ty (cs.set off y)))
  | _ => False

theorem storeE_run (he : EnvS w ρ S) {t : TypeId} {a x : AVal} {u v : Value} {S' : Store} (ha : VS w ρ S a u) (hx : VS w ρ S x v) (h : storeE P S t a x S') :
    ∃ w', (Instr.storeAt t u v).run P w = .ok () w' ∧ EnvS w' ρ S' ∧ Ext (fun _ => False) w ρ S w' ρ S' := by
  unfold storeE at h
  split at h
  · rename_i m off
    obtain ⟨-, rfl⟩ := ha
    rcases h with ⟨ty, cs, hm, h1, h2, h3, h4, rfl⟩ | ⟨ty, k, L, y, hm, h2, rfl, h4, rfl⟩ | ⟨ty, cs, y, hm, h2, rfl, h1, h4, rfl⟩
    · have hsc := solid_cells h1 hx
      obtain ⟨vs, q1, q0, q2⟩ := he.obj m _ hm
      have hlen : cs.length ≤ vs.size := by
        rcases Nat.lt_or_ge vs.size cs.length with q | q
        · obtain ⟨u, p1, _⟩ := q2 vs.size _ (List.getElem?_eq_getElem q)
          rw [Array.getElem?_eq_none (Nat.le_refl _)] at p1; cases p1
        · exact q
      have hl : v.cells.toList.length = x.cells.length := hsc.1.symm
      have hst := run_storeCells_at P (ρ m) off ty v.cells.toList 0 vs w q1 (by rw [hl]; omega) (fun u hu => by
        obtain ⟨i, hi, e⟩ := List.getElem_of_mem hu
        obtain ⟨u', p1, p2, _⟩ := hsc.2 i _ (List.getElem?_eq_getElem (by omega))
        rw [List.getElem?_eq_getElem hi] at p1
        obtain rfl := Option.some.inj p1
        rw [← e]; exact p2)
      rw [Nat.add_zero, hl] at hst
      have hput := Put.of_setRow q1 (vs.toList.take off ++ v.cells.toList ++ vs.toList.drop (off + x.cells.length)).toArray
      generalize hW : w.setRow (ρ m) (vs.toList.take off ++ v.cells.toList ++ vs.toList.drop (off + x.cells.length)).toArray = W at hst hput
      have hsz : (vs.toList.take off ++ v.cells.toList ++ vs.toList.drop (off + x.cells.length)).toArray.size = vs.size := by
        simp only [List.size_toArray, List.length_append, List.length_take, List.length_drop, hl, Array.length_toList]; omega
      have hext := hput.ext hm rfl (o' := .cells ty (spl cs off x.cells)) rfl q1 hsz
      refine ⟨W, ?_, hput.env he hm rfl rfl q1 hsz ⟨_, hput.at_, by rw [hsz, q0]; simp [Abs.spl]; omega, fun i c hi => ?_⟩, hext⟩
      · have e1 : v.cells.size = P.cellsOf t := by rw [← h3, ← hl]; simp
        simp only [Instr.storeAt, Sem.run_bind, Instr.sureAddr, Sem.run_pure, Result.andThen_ok, storeVar, run_sizeOf' h2, Sem.run_ite]
        rw [if_neg (by simp [e1])]
        exact hst
      · simp only [List.append_assoc, List.getElem?_toArray]
        unfold Abs.spl at hi
        rw [List.append_assoc] at hi
        rcases Nat.lt_or_ge i off with g | g
        · rw [List.getElem?_append_left (by simp; omega), List.getElem?_take_of_lt g] at hi
          rw [List.getElem?_append_left (by simp; omega), List.getElem?_take_of_lt g]
          obtain ⟨u, p1, p2, p3⟩ := q2 i c hi
          exact ⟨u, by simpa using p1, p2, p3.ext hext⟩
        · have e3 : (vs.toList.take off).length = (cs.take off).length := by simp; omega
          have e4 : (cs.take off).length = off := by simp; omega
          rw [List.getElem?_append_right (by omega)] at hi
          rw [List.getElem?_append_right (by omega), e3]
          rw [e4] at hi ⊢
          rcases Nat.lt_or_ge i (off + x.cells.length) with g2 | g2
          · rw [List.getElem?_append_left (by omega)] at hi
            rw [List.getElem?_append_left (by omega)]
            obtain ⟨u, p1, p2, p3⟩ := hsc.2 _ c hi
            exact ⟨u, p1, p2, p3.ext hext⟩
          · rw [List.getElem?_append_right (by omega), List.getElem?_drop] at hi
            rw [List.getElem?_append_right (by omega), List.getElem?_drop, hl]
            obtain ⟨u, p1, p2, p3⟩ := q2 _ c hi
            exact ⟨u, by simpa using p1, p2, p3.ext hext⟩
    · have ev : v = .int k y := vs_sc hx
      subst ev
      obtain ⟨vs, q1, q2⟩ := he.obj m _ hm
      have hlen : off < vs.size := by
        rcases Nat.lt_or_ge off vs.size with q | q
        · exact q
        · have := q2 off _ (List.getElem?_eq_getElem h4)
          rw [Array.getElem?_eq_none q] at this; cases this
      have hst := run_storeCells_at P (ρ m) off ty [.int k y] 0 vs w q1 (by simp; omega) (fun u hu => by simp at hu; subst hu; rfl)
      rw [Nat.add_zero] at hst
      have hput := Put.of_setRow q1 (vs.toList.take off ++ [Value.int k y] ++ vs.toList.drop (off + 1)).toArray
      have hst' : (storeCells ⟨ρ m, off, none⟩ [Value.int k y]).run P w = .ok () (w.setRow (ρ m) (vs.toList.take off ++ [Value.int k y] ++ vs.toList.drop (off + 1)).toArray) := hst
      generalize hW : w.setRow (ρ m) (vs.toList.take off ++ [Value.int k y] ++ vs.toList.drop (off + 1)).toArray = W at hst' hput
      have hsz : (vs.toList.take off ++ [Value.int k y] ++ vs.toList.drop (off + 1)).toArray.size = vs.size := by
        simp only [List.size_toArray, List.length_append, List.length_take, List.length_drop, Array.length_toList, List.length_cons, List.length_nil]; omega
      have hext := hput.ext hm rfl (o' := .ints ty k (L.set off y)) rfl q1 hsz
      refine ⟨W, ?_, hput.env he hm rfl rfl q1 hsz ⟨_, hput.at_, fun i c hi => ?_⟩, hext⟩
      · have e2 : P.cellsOf t ≠ 0 := by omega
        have e3 : #[Value.int k y].size = P.cellsOf t := by simp [h2]
        simp only [Instr.storeAt, Sem.run_bind, Instr.sureAddr, Sem.run_pure, Result.andThen_ok, storeVar, run_sizeOf' e2, Value.cells, e3, ne_eq, not_true_eq_false, if_false]
        exact hst'
      · simp only [List.append_assoc, List.getElem?_toArray]
        rw [List.getElem?_set] at hi
        have e4 : (vs.toList.take off).length = off := by simp; omega
        by_cases g : off = i
        · subst g
          simp only [if_true, h4] at hi
          obtain rfl := Option.some.inj hi
          rw [List.getElem?_append_right (by omega), e4, Nat.sub_self]; rfl
        · rw [if_neg g] at hi
          rcases Nat.lt_or_ge i off with g1 | g1
          · rw [List.getElem?_append_left (by omega), List.getElem?_take_of_lt g1]
            simpa using q2 i c hi
          · rw [List.getElem?_append_right (by omega), List.getElem?_append_right (by simp; omega), List.getElem?_drop, e4]
            have := q2 i c hi
            rw [show off + 1 + (i - off - [Value.int k y].length) = i by simp; omega]
            simpa using this
    · have hsc := solid_cells (x := .c y) h1 hx
      have hv1 : v.oneCell' = true := CellS.one hx h1
      obtain ⟨vs, q1, q2⟩ := he.obj m _ hm
      have hlen : off < vs.size := by
        obtain ⟨u, p1, _⟩ := q2 off _ (List.getElem?_eq_getElem h4)
        exact (Array.getElem?_eq_some_iff.1 p1).1
      have hst := run_storeCells_at P (ρ m) off ty [v] 0 vs w q1 (by simp; omega) (fun u hu => by simp at hu; subst hu; exact hv1)
      rw [Nat.add_zero] at hst
      have hput := Put.of_setRow q1 (vs.toList.take off ++ [v] ++ vs.toList.drop (off + 1)).toArray
      have hst' : (storeCells ⟨ρ m, off, none⟩ [v]).run P w = .ok () (w.setRow (ρ m) (vs.toList.take off ++ [v] ++ vs.toList.drop (off + 1)).toArray) := hst
      generalize hW : w.setRow (ρ m) (vs.toList.take off ++ [v] ++ vs.toList.drop (off + 1)).toArray = W at hst' hput
      have hsz : (vs.toList.take off ++ [v] ++ vs.toList.drop (off + 1)).toArray.size = vs.size := by
        simp only [List.size_toArray, List.length_append, List.length_take, List.length_drop, Array.length_toList, List.length_cons, List.length_nil]; omega
      have hext := hput.ext hm rfl (o' := .row ty (cs.set off y)) rfl q1 hsz
      have hcv : v.cells = #[v] := by cases v <;> first | rfl | (simp [Value.oneCell'] at hv1)
      refine ⟨W, ?_, hput.env he hm rfl rfl q1 hsz ⟨_, hput.at_, fun i c hi => ?_⟩, hext⟩
      · have e2 : P.cellsOf t ≠ 0 := by omega
        have e3 : v.cells.size = P.cellsOf t := by rw [hcv, h2]; rfl
        simp only [Instr.storeAt, Sem.run_bind, Instr.sureAddr, Sem.run_pure, Result.andThen_ok, storeVar, run_sizeOf' e2, Sem.run_ite]
        rw [if_neg (by simp [e3]), hcv]
        exact hst'
      · simp only [List.append_assoc, List.getElem?_toArray]
        rw [List.getElem?_set] at hi
        have e4 : (vs.toList.take off).length = off := by simp; omega
        by_cases g : off = i
        · subst g
          simp only [if_true, h4] at hi
          obtain rfl := Option.some.inj hi
          rw [List.getElem?_append_right (by omega), e4, Nat.sub_self]
          exact ⟨v, rfl, hv1, CellS.ext hext hx⟩
        · rw [if_neg g] at hi
          rcases Nat.lt_or_ge i off with g1 | g1
          · rw [List.getElem?_append_left (by omega), List.getElem?_take_of_lt g1]
            obtain ⟨u, p1, p2, p3⟩ := q2 i c hi
            exact ⟨u, by simpa using p1, p2, p3.ext hext⟩
          · rw [List.getElem?_append_right (by omega), List.getElem?_append_right (by simp; omega), List.getElem?_drop, e4]
            obtain ⟨u, p1, p2, p3⟩ := q2 i c hi
            rw [show off + 1 + (i - off - [v].length) = i by simp; omega]
            exact ⟨u, by simpa using p1, p2, p3.ext hext⟩
  · exact h.elim
end
end Go.Abs

/-
  Appends to what a function gathers.
-/
namespace Go.Abs
open Go
set_option linter.unusedSimpArgs false

theorem upd_self {S : Store} {m : Nm} {o : AObj} (h : S m = some o) : upd S m o = S := by
  funext n; unfold upd; split
  · rename_i e; rw [e, h]
  · rfl

section
variable {P : Program} {w : World} {ρ : Nm → Nat} {S : Store} {r : Operand → AVal} {η : Operand → Value}

def srcR (S : Store) (x : AVal) (sz : Nat) (Y : List (List Cell)) : Prop :=
  match x with
  | .c (.ints k L) => sz = 1 ∧ Y = ir k L
  | .c (.intc k L n) => sz = 1 ∧ n ≤ L.length ∧ Y = ir k (L.take n)
  | .c (.seq sz' L) => sz' = sz ∧ Y = L.map (·.map Leaf.cell)
  | .c (.seqc sz' L n) => sz' = sz ∧ n ≤ L.length ∧ Y = (L.take n).map (·.map Leaf.cell)
  | .c (.win m off len _) => (∀ c ∈ Y, c.length = sz) ∧ Y.length = len ∧ ∃ ty, (∃ k L, S m = some (.ints ty k L) ∧ sz = 1 ∧ off + len ≤ L.length ∧ Y = ir k ((L.drop off).take len)) ∨ (∃ cs, (S m = some (.cells ty cs) ∨ S m = some (.row ty cs)) ∧ off + len * sz ≤ cs.length ∧ (cs.drop off).take (len * sz) = Y.flatten)
  | .accv m _ => ∃ ty, S m = some (.acc ty sz Y)
  | .c (.sc (.slice none 0 0)) => Y = []
  | _ => False

theorem row_held {b off sz : Nat} {Y : List (List Cell)} (hz : ∀ c ∈ Y, c.length = sz) (h : ∀ i c j x, Y[i]? = some c → c[j]? = some x → ∃ u, w.cell? ⟨b, off + (i * sz + j), none⟩ = some u ∧ u.oneCell' = true ∧ CellS w ρ S x u) :
    ∃ us : List Value, CellsS w ρ S Y.flatten us ∧ ∀ j u, us[j]? = some u → w.cell? ⟨b, off + j, none⟩ = some u := by
  have key : ∀ j, j < Y.flatten.length → ∃ u, w.cell? ⟨b, off + j, none⟩ = some u ∧ ∀ x, Y.flatten[j]? = some x → u.oneCell' = true ∧ CellS w ρ S x u := by
    intro j hj
    rw [flat_len hz] at hj
    have hs : 0 < sz := Nat.pos_of_ne_zero fun e => by subst e; omega
    have hi : j / sz < Y.length := (Nat.div_lt_iff_lt_mul hs).2 hj
    have hm : j % sz < (Y[j / sz]).length := by rw [hz _ (List.getElem_mem hi)]; exact Nat.mod_lt _ hs
    obtain ⟨u, h1, h2, h3⟩ := h (j / sz) _ (j % sz) _ (List.getElem?_eq_getElem hi) (List.getElem?_eq_getElem hm)
    have e : j / sz * sz + j % sz = j := by rw [Nat.mul_comm]; exact Nat.div_add_mod j sz
    rw [e] at h1
    refine ⟨u, h1, fun x hx => ?_⟩
    have := flat_get hz (List.getElem?_eq_getElem hi) (List.getElem?_eq_getElem hm)
    rw [e, hx] at this
    obtain rfl := Option.some.inj this
    exact ⟨h2, h3⟩
  obtain ⟨us, l1, l2⟩ := list_of_cells key
  refine ⟨us, ⟨l1.symm, fun i x hi => ?_⟩, fun j u hu => (l2 j u hu).1⟩
  have hlt := (List.getElem?_eq_some_iff.1 hi).1
  obtain ⟨-, p⟩ := l2 i _ (List.getElem?_eq_getElem (by omega))
  exact ⟨us[i], by simp, (p x hi).1, (p x hi).2⟩

theorem srcR_len {S : Store} {x : AVal} {sz : Nat} {Y : List (List Cell)} (he : EnvS w ρ S) {u : Value} (hx : VS w ρ S x u) (h : srcR S x sz Y) : ∀ c ∈ Y, c.length = sz := by
  unfold srcR at h
  split at h
  · obtain ⟨rfl, rfl⟩ := h; intro c hc; obtain ⟨y, -, rfl⟩ := List.mem_map.1 hc; rfl
  · obtain ⟨rfl, -, rfl⟩ := h; intro c hc; obtain ⟨y, -, rfl⟩ := List.mem_map.1 hc; rfl
  · obtain ⟨rfl, rfl⟩ := h
    obtain ⟨A, cap, -, -, -, hz, -⟩ := hx
    intro c hc; obtain ⟨y, hy, rfl⟩ := List.mem_map.1 hc; simpa using hz y hy
  · obtain ⟨rfl, -, rfl⟩ := h
    obtain ⟨A, cap, -, -, -, hz, -⟩ := hx
    intro c hc; obtain ⟨y, hy, rfl⟩ := List.mem_map.1 hc; simpa using hz y (List.mem_of_mem_take hy)
  · exact h.1
  · obtain ⟨ty, hm⟩ := h
    rcases he.obj _ _ hm with rfl | ⟨vs, -, hz, -⟩
    · intro c hc; cases hc
    · exact hz
  · subst h; intro c hc; cases hc
  · exact h.elim

theorem srcR_held (he : EnvS w ρ S) {x : AVal} {u : Value} {sz : Nat} {Y : List (List Cell)} (hs0 : sz ≠ 0) (hx : VS w ρ S x u) (h : srcR S x sz Y) :
    (Y = [] ∧ ∃ A c, u = .slice A 0 c) ∨ (Y ≠ [] ∧ ∃ b off c us, u = .slice (some ⟨b, off, none⟩) Y.length c ∧ CellsS w ρ S Y.flatten us ∧ ∀ j u', us[j]? = some u' → w.cell? ⟨b, off + j, none⟩ = some u') := by
  have hz := srcR_len he hx h
  unfold srcR at h
  split at h
  · rename_i k L
    obtain ⟨rfl, rfl⟩ := h
    obtain ⟨A, cap, rfl, h1, h2, h3⟩ := hx
    cases L with
    | nil => exact .inl ⟨rfl, A, cap, rfl⟩
    | cons a l =>
      obtain ⟨b, off, rfl, -, hc⟩ := h3 (by simp)
      obtain ⟨us, q1, q2⟩ := row_held (w := w) (ρ := ρ) (S := S) (b := b) (off := off) hz (fun i c j x hi hj => by
        rw [List.getElem?_map, Option.map_eq_some_iff] at hi
        obtain ⟨y, e1, rfl⟩ := hi
        match j, hj with
        | 0, hj =>
          simp only [List.getElem?_cons_zero, Option.some.injEq] at hj
          subst hj
          exact ⟨_, by simpa using hc i y e1, rfl, rfl⟩)
      exact .inr ⟨by simp, b, off, cap, us, by simp, q1, q2⟩
  · rename_i k L n
    obtain ⟨rfl, hn, rfl⟩ := h
    obtain ⟨A, cap, rfl, h1, h2, h3⟩ := hx
    by_cases h0 : n = 0
    · subst h0; exact .inl ⟨by simp, A, cap, rfl⟩
    · obtain ⟨b, off, rfl, -, hc⟩ := h3 (by omega)
      obtain ⟨us, q1, q2⟩ := row_held (w := w) (ρ := ρ) (S := S) (b := b) (off := off) hz (fun i c j x hi hj => by
        rw [List.getElem?_map, Option.map_eq_some_iff] at hi
        obtain ⟨y, e1, rfl⟩ := hi
        have hlt : i < n := by
          rcases Nat.lt_or_ge i n with q | q
          · exact q
          · rw [List.getElem?_eq_none (by simp; omega)] at e1; cases e1
        rw [List.getElem?_take_of_lt hlt] at e1
        match j, hj with
        | 0, hj =>
          simp only [List.getElem?_cons_zero, Option.some.injEq] at hj
          subst hj
          exact ⟨_, by simpa using hc i y e1, rfl, rfl⟩)
      refine .inr ⟨by intro e; have q := congrArg List.length e; rw [List.length_map, List.length_take, Nat.min_eq_left hn, List.length_nil] at q; omega, b, off, cap, us, by simp [Nat.min_eq_left hn], q1, q2⟩
  · rename_i sz' L
    obtain ⟨rfl, rfl⟩ := h
    obtain ⟨A, cap, rfl, -, h1, h2, h3⟩ := hx
    cases L with
    | nil => exact .inl ⟨rfl, A, cap, rfl⟩
    | cons a l =>
      obtain ⟨b, off, rfl, -, hc⟩ := h3 (by simp)
      obtain ⟨us, q1, q2⟩ := row_held (w := w) (ρ := ρ) (S := S) (b := b) (off := off) hz (fun i c j x hi hj => by
        rw [List.getElem?_map, Option.map_eq_some_iff] at hi
        obtain ⟨y, e1, rfl⟩ := hi
        rw [List.getElem?_map, Option.map_eq_some_iff] at hj
        obtain ⟨z, e2, rfl⟩ := hj
        obtain ⟨u, p1, p2⟩ := hc i y j z e1 e2
        exact ⟨u, p1, p2.one, p2.cellS⟩)
      exact .inr ⟨by simp, b, off, cap, us, by simp, q1, q2⟩
  · rename_i sz' L n
    obtain ⟨rfl, hn, rfl⟩ := h
    obtain ⟨A, cap, rfl, -, h1, h2, h3⟩ := hx
    by_cases h0 : n = 0
    · subst h0; exact .inl ⟨by simp, A, cap, rfl⟩
    · obtain ⟨b, off, rfl, -, hc⟩ := h3 (by omega)
      obtain ⟨us, q1, q2⟩ := row_held (w := w) (ρ := ρ) (S := S) (b := b) (off := off) hz (fun i c j x hi hj => by
        rw [List.getElem?_map, Option.map_eq_some_iff] at hi
        obtain ⟨y, e1, rfl⟩ := hi
        have hlt : i < n := by
          rcases Nat.lt_or_ge i n with q | q
          · exact q
          · rw [List.getElem?_eq_none (by simp; omega)] at e1; cases e1
        rw [List.getElem?_take_of_lt hlt] at e1
        rw [List.getElem?_map, Option.map_eq_some_iff] at hj
        obtain ⟨z, e2, rfl⟩ := hj
        obtain ⟨u, p1, p2⟩ := hc i y j z e1 e2
        exact ⟨u, p1, p2.one, p2.cellS⟩)
      refine .inr ⟨by intro e; have q := congrArg List.length e; rw [List.length_map, List.length_take, Nat.min_eq_left hn, List.length_nil] at q; omega, b, off, cap, us, by simp [Nat.min_eq_left hn], q1, q2⟩
  · rename_i m off len cm
    obtain ⟨-, hlen, ty, h⟩ := h
    obtain ⟨⟨o, ho, ha⟩, A, cap, rfl, h1, h2, h3⟩ := hx
    by_cases h0 : len = 0
    · exact .inl ⟨List.eq_nil_of_length_eq_zero (by omega), A, cap, by rw [h0]⟩
    · obtain ⟨rfl, -⟩ := h3 (by omega)
      have hne : Y ≠ [] := fun e => h0 (by rw [← hlen, e]; rfl)
      rcases h with ⟨k, L, hm, rfl, hl, rfl⟩ | ⟨cs, hm, hl, e⟩
      · obtain ⟨vs, q1, q2⟩ := he.obj m _ hm
        obtain ⟨us, g1, g2⟩ := row_held (w := w) (ρ := ρ) (S := S) (b := ρ m) (off := off) hz (fun i c j x hi hj => by
          rw [List.getElem?_map, Option.map_eq_some_iff] at hi
          obtain ⟨y, e1, rfl⟩ := hi
          have hlt : i < len := by
            rcases Nat.lt_or_ge i len with q | q
            · exact q
            · rw [List.getElem?_eq_none (by simp; omega)] at e1; cases e1
          rw [List.getElem?_take_of_lt hlt, List.getElem?_drop] at e1
          match j, hj with
          | 0, hj =>
            simp only [List.getElem?_cons_zero, Option.some.injEq] at hj
            subst hj
            exact ⟨_, by rw [cell_of_heap q1]; simpa using q2 _ y e1, rfl, rfl⟩)
        exact .inr ⟨hne, ρ m, off, cap, us, by rw [hlen], g1, g2⟩
      · obtain ⟨vs, q1, q2⟩ : ∃ vs, w.heap[ρ m]? = some (.cells vs ty (0, 0)) ∧ ∀ (i : Nat) (x : Cell), cs[i]? = some x → ∃ u, vs[i]? = some u ∧ u.oneCell' = true ∧ CellS w ρ S x u := by
          rcases hm with hm | hm
          · obtain ⟨vs, q1, -, q2⟩ := he.obj m _ hm; exact ⟨vs, q1, q2⟩
          · exact he.obj m _ hm
        obtain ⟨us, g1, g2⟩ := row_held (w := w) (ρ := ρ) (S := S) (b := ρ m) (off := off) hz (fun i c j x hi hj => by
          have e1 := flat_get hz hi hj
          rw [← e] at e1
          have hlt : i * sz + j < len * sz := by
            rcases Nat.lt_or_ge (i * sz + j) (len * sz) with q | q
            · exact q
            · rw [List.getElem?_eq_none (by simp; omega)] at e1; cases e1
          rw [List.getElem?_take_of_lt hlt, List.getElem?_drop] at e1
          obtain ⟨u, p1, p2, p3⟩ := q2 _ _ e1
          exact ⟨u, by rw [cell_of_heap q1]; exact p1, p2, p3⟩)
        exact .inr ⟨hne, ρ m, off, cap, us, by rw [hlen], g1, g2⟩
  · rename_i m n0
    obtain ⟨ty, hm⟩ := h
    obtain ⟨ty', sz', L', hm', -, h1⟩ := hx
    rw [hm] at hm'
    simp only [Option.some.injEq, AObj.acc.injEq] at hm'
    obtain ⟨rfl, rfl, rfl⟩ := hm'
    rcases h1 with ⟨rfl, A, rfl⟩ | ⟨hne, cap, rfl, -⟩
    · exact .inl ⟨rfl, A, 0, rfl⟩
    · rcases he.obj m _ hm with q | ⟨vs, q1, -, q2⟩
      · exact absurd q hne
      · obtain ⟨us, g1, g2⟩ := row_held (w := w) (ρ := ρ) (S := S) (b := ρ m) (off := 0) hz (fun i c j x hi hj => by
          obtain ⟨u, p1, p2, p3⟩ := q2 i c j x hi hj
          exact ⟨u, by rw [cell_of_heap q1, Nat.zero_add]; exact p1, p2, p3⟩)
        exact .inr ⟨hne, ρ m, 0, cap, us, rfl, g1, g2⟩
  · subst h; have := vs_sc hx; subst this; exact .inl ⟨rfl, none, 0, rfl⟩
  · exact h.elim

theorem run_append_none {t e : TypeId} (ht : P.underlying t = some (.slice e)) (h1 : P.cellsOf e ≠ 0) (b A : Option Addr) (n cap c : Nat) (hn : n ≤ cap) (ty : TypeId) :
    (Builtin.append_ #[t, t] ty #[.slice b n cap, .slice A 0 c]).run P w = .ok (.slice b n cap) w := by
  have hl : ∀ a : Addr, (loadCells a 0).run P w = .ok #[] w := fun a => by simp [loadCells, loadCellsFrom]
  cases A <;> cases b <;> simp [Builtin.append_, run_underlying' ht, run_sizeOf' h1, Builtin.lenOf, hn, Builtin.firstCells, hl, storeCells]

theorem run_append_zero {t e : TypeId} (ht : P.underlying t = some (.slice e)) {i : TypeInfo} (hi : P.info? e = some i) (a0 a : Addr) (m c : Nat) (hm : 0 < m) (hb : m * i.bytes ≤ 140737488355328) (ty : TypeId) :
    (Builtin.append_ #[t, t] ty #[.slice (some a0) 0 0, .slice (some a) m c]).run P w = (Builtin.append_ #[t, t] ty #[.slice none 0 0, .slice (some a) m c]).run P w := by
  have hn : Builtin.nextslicecap m 0 = m := nextslicecap_zero hm
  have h1 : ¬ 281474976710656 < m * i.bytes := by omega
  have hm0 : ¬ m = 0 := by omega
  simp [Builtin.append_, run_underlying' ht, sizeOf, typeInfo, hi, Builtin.lenOf, hn, h1, hm0, Builtin.firstCells, loadCells, loadCellsFrom]

structure Grew (w : World) (ρ : Nm → Nat) (S : Store) (n : Nm) (e : TypeId) (k : Nat) (L : List (List Cell)) (v : Value) (w' : World) (ρ' : Nm → Nat) : Prop where
  env : EnvS w' ρ' (upd S n (.acc e k L))
  ext : Ext (fun m => m = n) w ρ S w' ρ' (upd S n (.acc e k L))
  val : VS w' ρ' (upd S n (.acc e k L)) (.accv n L.length) v

theorem append_grew (he : EnvS w ρ S) {t e ty : TypeId} (ht : P.underlying t = some (.slice e)) {k : Nat} (hc1 : P.cellsOf e = k) (hk : 0 < k) {zv : Value} (hz : zeroOf P e = some zv) (hzk : zv.cells.size = k) {n : Nm} {L Y : List (List Cell)}
    (hn : (S n = none ∧ L = []) ∨ S n = some (.acc e k L)) {sv xv : Value}
    (hsv0 : (L = [] ∧ ∃ A, sv = .slice A 0 0) ∨ (L ≠ [] ∧ ∃ cap, sv = .slice (some ⟨ρ n, 0, none⟩) L.length cap ∧ L.length ≤ cap ∧ cap ≤ maxLen ∧ SzX w (ρ n) e (cap * k)))
    {x : AVal} (hx : VS w ρ S x xv) (hsrc : srcR S x k Y) (hb : (L.length + Y.length) * P.bytesOf e ≤ 140737488355328) (h63 : L.length + Y.length ≤ maxLen) :
    ∃ v w' ρ', (Builtin.append_ #[t, t] ty #[sv, xv]).run P w = .ok v w' ∧ Grew w ρ S n e k (L ++ Y) v w' ρ' := by
  rcases srcR_held he (by omega) hx hsrc with ⟨rfl, A, c, rfl⟩ | ⟨hY, b, off, c, news, rfl, hnews, hcell⟩
  · -- nothing is appended
    rw [List.append_nil]
    have hsv := hsv0
    have hv : ∃ v, (Builtin.append_ #[t, t] ty #[sv, .slice A 0 c]).run P w = .ok v w ∧ v = sv := by
      rcases hsv with ⟨-, A2, rfl⟩ | ⟨-, cap, rfl, h1, -⟩
      · exact ⟨_, run_append_none ht (by omega) A2 A 0 0 c (Nat.le_refl _) ty, rfl⟩
      · exact ⟨_, run_append_none ht (by omega) _ A _ cap c h1 ty, rfl⟩
    obtain ⟨v, hv, rfl⟩ := hv
    refine ⟨v, w, ρ, hv, ?_⟩
    rcases hn with ⟨h1, rfl⟩ | h1
    · refine ⟨⟨fun a b o1 o2 e1 e2 r1 r2 q => ?_, fun a o ha => ?_⟩, ⟨rfl, rfl, rfl, Nat.le_refl _, fun _ _ _ => rfl, fun a o ha hr => ?_, fun a o ha hr => ?_, fun _ _ _ _ _ _ _ h => h, fun a ty' k' L' hX ha => ?_, fun m hm o ho => ?_⟩, ?_⟩
      · by_cases q1 : a = n
        · subst q1; rw [upd_same] at e1; obtain rfl := Option.some.inj e1; cases r1
        · by_cases q2 : b = n
          · subst q2; rw [upd_same] at e2; obtain rfl := Option.some.inj e2; cases r2
          · rw [upd_ne _ _ q1] at e1; rw [upd_ne _ _ q2] at e2; exact he.inj a b o1 o2 e1 e2 r1 r2 q
      · by_cases q1 : a = n
        · subst q1; rw [upd_same] at ha; obtain rfl := Option.some.inj ha; exact .inl rfl
        · rw [upd_ne _ _ q1] at ha
          exact (he.obj a o ha).ext (X := fun m => m = n) (w' := w) (ρ' := ρ) ⟨rfl, rfl, rfl, Nat.le_refl _, fun _ _ _ => rfl, fun a o ha hr => by
            by_cases q1 : a = n
            · subst q1; rw [upd_same] at ha; obtain rfl := Option.some.inj ha; cases hr
            · rw [upd_ne _ _ q1] at ha; exact .inl ⟨o, ha, hr, rfl⟩, fun a o ha hr => by
            have q1 : a ≠ n := fun q1 => by subst q1; rw [h1] at ha; cases ha
            exact ⟨o, by rw [upd_ne _ _ q1]; exact ha, hr, rfl⟩, fun _ _ _ _ _ _ _ h => h, fun a ty' k' L' hX ha => ⟨by rw [upd_ne _ _ hX]; exact ha, fun _ => rfl⟩, fun m hm o ho => by subst hm; rw [h1] at ho; cases ho⟩ (fun x hx => hx)
      · by_cases q1 : a = n
        · subst q1; rw [upd_same] at ha; obtain rfl := Option.some.inj ha; cases hr
        · rw [upd_ne _ _ q1] at ha; exact .inl ⟨o, ha, hr, rfl⟩
      · have q1 : a ≠ n := fun q1 => by subst q1; rw [h1] at ha; cases ha
        exact ⟨o, by rw [upd_ne _ _ q1]; exact ha, hr, rfl⟩
      · exact ⟨by rw [upd_ne _ _ hX]; exact ha, fun _ => rfl⟩
      · subst hm; rw [h1] at ho; cases ho
      · rcases hsv with ⟨-, hA⟩ | ⟨h, -⟩
        · exact ⟨e, k, [], upd_same _ _ _, rfl, .inl ⟨rfl, hA⟩⟩
        · exact absurd rfl h
    · rw [show Grew w ρ S n e k L v w ρ ↔ (EnvS w ρ S ∧ Ext (fun m => m = n) w ρ S w ρ S ∧ VS w ρ S (.accv n L.length) v) from by
        constructor
        · rintro ⟨a, b, c⟩; rw [upd_self h1] at a b c; exact ⟨a, b, c⟩
        · rintro ⟨a, b, c⟩; exact ⟨by rw [upd_self h1]; exact a, by rw [upd_self h1]; exact b, by rw [upd_self h1]; exact c⟩]
      refine ⟨he, ⟨rfl, rfl, rfl, Nat.le_refl _, fun _ _ _ => rfl, fun _ o h hr => .inl ⟨o, h, hr, rfl⟩, fun _ o h hr => ⟨o, h, hr, rfl⟩, fun _ _ _ _ _ _ _ h => h, fun _ _ _ _ _ h => ⟨h, fun _ => rfl⟩, fun m hm o ho => ?_⟩, e, k, L, h1, rfl, hsv⟩
      subst hm; rw [h1] at ho; obtain rfl := Option.some.inj ho; rfl
  · -- something is
    cases ei : P.info? e with
    | none => simp [zeroOf, ei] at hz
    | some i =>
      have hz' : i.zero = some zv := by simpa [zeroOf, ei] using hz
      have hsz : i.size = k := by simpa [Program.cellsOf, ei] using hc1
      have hby : P.bytesOf e = i.bytes := by simp [Program.bytesOf, ei]
      obtain ⟨sv', hsv, hrun0⟩ : ∃ sv', ((L = [] ∧ sv' = .slice none 0 0) ∨ (L ≠ [] ∧ ∃ cap, sv' = .slice (some ⟨ρ n, 0, none⟩) L.length cap ∧ L.length ≤ cap ∧ cap ≤ maxLen ∧ SzX w (ρ n) e (cap * k))) ∧
          (Builtin.append_ #[t, t] ty #[sv, .slice (some ⟨b, off, none⟩) Y.length c]).run P w = (Builtin.append_ #[t, t] ty #[sv', .slice (some ⟨b, off, none⟩) Y.length c]).run P w := by
        rcases hsv0 with ⟨rfl, A, rfl⟩ | h
        · refine ⟨_, .inl ⟨rfl, rfl⟩, ?_⟩
          cases A with
          | none => rfl
          | some a0 => exact run_append_zero ht ei a0 ⟨b, off, none⟩ Y.length c (List.length_pos_iff.2 hY) (by rw [← hby]; simpa using hb) ty
        · exact ⟨_, .inr h, rfl⟩
      rw [hrun0]
      have hYz := srcR_len he hx hsrc
      obtain ⟨olds, hown, holds⟩ : ∃ olds, w.ownsRow 0 e k sv' L.length olds ∧ (L ≠ [] → (∀ c ∈ L, c.length = k) ∧ CellsS w ρ S L.flatten olds) := by
        rcases hsv with ⟨rfl, rfl⟩ | ⟨hL, cap, rfl, h1, h2, vs, h3, h4⟩
        · exact ⟨[], ⟨by simp, .inl ⟨rfl, rfl⟩⟩, fun h => absurd rfl h⟩
        · have hn' : S n = some (.acc e k L) := by rcases hn with ⟨-, q⟩ | q; exact absurd q hL; exact q
          rcases he.obj n _ hn' with q | ⟨vs', q1, q0, q2⟩
          · exact absurd q hL
          · rw [h3] at q1
            injection q1 with q1
            injection q1 with q1 _ _
            subst q1
            have hle : L.length * k ≤ vs.size := by rw [h4]; exact Nat.mul_le_mul_right _ h1
            refine ⟨vs.toList.take (L.length * k), ⟨by simp; omega, .inr ⟨ρ n, cap, vs, rfl, Nat.zero_le _, h3, h1, h2, h4, rfl⟩⟩, fun _ => ⟨q0, ?_⟩⟩
            refine ⟨by rw [flat_len q0]; simp; omega, fun j x hj => ?_⟩
            have hlt := (List.getElem?_eq_some_iff.1 hj).1
            rw [flat_len q0] at hlt
            have hi : j / k < L.length := (Nat.div_lt_iff_lt_mul hk).2 hlt
            have hm : j % k < (L[j / k]).length := by rw [q0 _ (List.getElem_mem hi)]; exact Nat.mod_lt _ hk
            have e1 : j / k * k + j % k = j := by rw [Nat.mul_comm]; exact Nat.div_add_mod j k
            have e2 := flat_get q0 (List.getElem?_eq_getElem hi) (List.getElem?_eq_getElem hm)
            rw [e1, hj] at e2
            obtain ⟨u, p1, p2, p3⟩ := q2 (j / k) _ (j % k) _ (List.getElem?_eq_getElem hi) (List.getElem?_eq_getElem hm)
            rw [e1] at p1
            obtain rfl := Option.some.inj e2
            exact ⟨u, by rw [List.getElem?_take_of_lt hlt]; simpa using p1, p2, p3⟩
      have hnl : news.length = Y.length * k := by rw [← hnews.1, flat_len hYz]
      obtain ⟨v', w', hrun, hown', hg, -, hat⟩ := run_append_own_at (P := P) w 0 t ty e i zv k i.bytes ht ei hz' hsz rfl hzk hk sv' L.length olds hown ⟨b, off, none⟩ Y.length c news hnl
        (fun j u hj => by rw [add_pl]; exact hcell j u hj) (fun u hu => by
          obtain ⟨j, hj, rfl⟩ := List.getElem_of_mem hu
          obtain ⟨u', p1, p2, -⟩ := hnews.2 j _ (List.getElem?_eq_getElem (by rw [hnews.1]; exact hj))
          rw [List.getElem?_eq_getElem hj] at p1
          obtain rfl := Option.some.inj p1
          exact p2) h63 (by rw [← hby]; exact hb) (Nat.zero_le _)
      have hpos : 0 < Y.length := List.length_pos_iff.2 hY
      rcases hown'.2 with ⟨rfl, q⟩ | ⟨g, cap', cur, rfl, -, hg1, hg2, hg3, hg4, hg5⟩
      · omega
      have hgat : (L ≠ [] ∧ g = ρ n) ∨ g = w.heap.size := by
        rcases hat with q | q
        · rcases hsv with ⟨rfl, rfl⟩ | ⟨hL, cap, rfl, -⟩
          · simp [Value.ownBlock] at q
          · simp [Value.ownBlock] at q; exact .inl ⟨hL, q⟩
        · simp [Value.ownBlock] at q; exact .inr q
      have hne : L ++ Y ≠ [] := by simp [hY]
      have hblk : ∀ m o, m ≠ n → S m = some o → o.real = true → w'.heap[ρ m]? = w.heap[ρ m]? ∧ ρ m ≠ g := by
        intro m o hm ho hr
        have hlt := he.lt ho hr
        have hnb : some (ρ m) ≠ sv'.ownBlock := by
          rcases hsv with ⟨rfl, rfl⟩ | ⟨hL, cap, rfl, -⟩
          · simp [Value.ownBlock]
          · have hn' : S n = some (.acc e k L) := by rcases hn with ⟨-, q⟩ | q; exact absurd q hL; exact q
            simp only [Value.ownBlock, ne_eq, Option.some.injEq]
            intro q
            exact hm (he.inj m n o _ ho hn' hr (by cases L with | nil => exact absurd rfl hL | cons a l => rfl) q)
        refine ⟨hg.block _ hlt hnb, ?_⟩
        rcases hgat with ⟨hL, rfl⟩ | rfl
        · have hn' : S n = some (.acc e k L) := by rcases hn with ⟨-, q⟩ | q; exact absurd q hL; exact q
          intro q
          exact hm (he.inj m n o _ ho hn' hr (by cases L with | nil => exact absurd rfl hL | cons a l => rfl) q)
        · omega
      have hext : Ext (fun m => m = n) w ρ S w' (setN ρ n g) (upd S n (.acc e k (L ++ Y))) := by
        refine ⟨hg.os, hg.tape, hg.output, hg.size, fun bb hbb hnn => hg.block bb hbb (fun q => ?_), fun m o hm hr => ?_, fun m o hm ha => ?_, fun m o hX hm hr ty' q hq => ?_, fun m ty' k' L' hX hm => ?_, fun m hX o hm => ?_⟩
        · rcases hsv with ⟨rfl, rfl⟩ | ⟨hL, cap, rfl, -⟩
          · simp [Value.ownBlock] at q
          · have hn' : S n = some (.acc e k L) := by rcases hn with ⟨-, q⟩ | q; exact absurd q hL; exact q
            simp [Value.ownBlock] at q
            exact hnn n _ hn' (by cases L with | nil => exact absurd rfl hL | cons a l => rfl) q.symm
        · by_cases q1 : m = n
          · subst q1
            rcases hgat with ⟨hL, rfl⟩ | rfl
            · have hn' : S m = some (.acc e k L) := by rcases hn with ⟨-, q⟩ | q; exact absurd q hL; exact q
              exact .inl ⟨_, hn', by cases L with | nil => exact absurd rfl hL | cons a l => rfl, by simp [setN]⟩
            · exact .inr (by simp [setN])
          · rw [upd_ne _ _ q1] at hm; exact .inl ⟨o, hm, hr, by simp [setN, q1]⟩
        · have q1 : m ≠ n := fun q1 => by
            subst q1
            rcases hn with ⟨q, -⟩ | q
            · rw [q] at hm; cases hm
            · rw [q] at hm; obtain rfl := Option.some.inj hm; cases ha
          exact ⟨o, by rw [upd_ne _ _ q1]; exact hm, ha, by simp [setN, q1]⟩
        · obtain ⟨us, p1, p2⟩ := hq
          exact ⟨us, by rw [(hblk m o hX hm hr).1]; exact p1, p2⟩
        · exact ⟨by rw [upd_ne _ _ hX]; exact hm, fun _ => by simp [setN, show m ≠ n from hX]⟩
        · subst hX
          rcases hn with ⟨q, -⟩ | q
          · rw [q] at hm; cases hm
          · rw [q] at hm; obtain rfl := Option.some.inj hm; rfl
      have hLz : ∀ c ∈ L, c.length = k := by
        intro c hc
        exact (holds (fun e => by subst e; cases hc)).1 c hc
      have hall : ∀ c ∈ L ++ Y, c.length = k := fun c hc => by rcases List.mem_append.1 hc with q | q; exact hLz c q; exact hYz c q
      have hcs : CellsS w ρ S (L ++ Y).flatten (olds ++ news) := by
        have ho : CellsS w ρ S L.flatten olds := by
          by_cases e : L = []
          · subst e
            have : olds = [] := List.eq_nil_of_length_eq_zero (by have := hown.1; simpa using this)
            subst this
            exact ⟨rfl, fun i x hi => by simp at hi⟩
          · exact (holds e).2
        rw [List.flatten_append]
        refine ⟨by rw [List.length_append, List.length_append, ho.1, hnews.1], fun i x hi => ?_⟩
        rcases Nat.lt_or_ge i L.flatten.length with q | q
        · rw [List.getElem?_append_left q] at hi
          rw [List.getElem?_append_left (by rw [← ho.1]; exact q)]
          exact ho.2 i x hi
        · rw [List.getElem?_append_right q] at hi
          rw [List.getElem?_append_right (by rw [← ho.1]; exact q), ← ho.1]
          exact hnews.2 _ x hi
      have hrow : RowsS w' (setN ρ n g) (upd S n (.acc e k (L ++ Y))) g e k (L ++ Y) := by
        refine ⟨cur, hg1, hall, fun i c j x hi hj => ?_⟩
        have e1 := flat_get hall hi hj
        obtain ⟨u, p1, p2, p3⟩ := hcs.2 _ x e1
        rw [← hg5] at p1
        have hlt : i * k + j < (L.length + Y.length) * k := by
          have := (List.getElem?_eq_some_iff.1 e1).1
          rw [flat_len hall, List.length_append] at this
          exact this
        rw [List.getElem?_take_of_lt hlt] at p1
        exact ⟨u, by simpa using p1, p2, p3.ext hext⟩
      refine ⟨_, w', setN ρ n g, hrun, ⟨⟨fun m m' o1 o2 e1 e2 r1 r2 q => ?_, fun m o hm => ?_⟩, hext, e, k, L ++ Y, upd_same _ _ _, rfl, .inr ⟨hne, cap', by simp [setN], by simpa using hg2, hg3, cur, by simpa [setN] using hg1, hg4⟩⟩⟩
      · by_cases q1 : m = n <;> by_cases q2 : m' = n
        · rw [q1, q2]
        · rw [upd_ne _ _ q2] at e2
          simp only [setN, q1, q2, if_true, if_false] at q
          exact absurd q.symm (hblk m' o2 q2 e2 r2).2
        · rw [upd_ne _ _ q1] at e1
          simp only [setN, q1, q2, if_true, if_false] at q
          exact absurd q (hblk m o1 q1 e1 r1).2
        · rw [upd_ne _ _ q1] at e1; rw [upd_ne _ _ q2] at e2
          simp only [setN, q1, q2, if_false] at q
          exact he.inj m m' o1 o2 e1 e2 r1 r2 q
      · by_cases q1 : m = n
        · subst q1
          rw [upd_same] at hm
          obtain rfl := Option.some.inj hm
          exact .inr (by simpa [setN] using hrow)
        · rw [upd_ne _ _ q1] at hm
          simp only [setN, q1, if_false]
          have ho := he.obj m o hm
          by_cases hr : o.real = true
          · exact ho.ext hext (fun x hx => by rw [(hblk m o q1 hm hr).1]; exact hx)
          · cases o with
            | acc ty k L => cases L with | nil => exact .inl rfl | cons a l => exact absurd rfl hr
            | cells ty cs => exact absurd rfl hr
            | ints ty k L => exact absurd rfl hr
            | fix x => exact absurd rfl hr
            | row ty cs => exact absurd rfl hr
theorem append_room (he : EnvS w ρ S) {t e ty : TypeId} (ht : P.underlying t = some (.slice e)) {sz : Nat} (hc1 : P.cellsOf e = sz) (hk : 0 < sz) {zv : Value} (hz : zeroOf P e = some zv) {m : Nm} {cs : List Cell} {Y : List (List Cell)} {len cm : Nat}
    (hm : S m = some (.cells e cs)) (h1 : len + Y.length ≤ cm) (h2 : (len + Y.length) * sz ≤ cs.length) {sv xv : Value} (hs : VS w ρ S (.c (.win m 0 len cm)) sv) {x : AVal} (hx : VS w ρ S x xv) (hsrc : srcR S x sz Y) :
    ∃ v w', (Builtin.append_ #[t, t] ty #[sv, xv]).run P w = .ok v w' ∧ EnvS w' ρ (upd S m (.cells e (spl cs (len * sz) Y.flatten))) ∧
      Ext (fun _ => False) w ρ S w' ρ (upd S m (.cells e (spl cs (len * sz) Y.flatten))) ∧ VS w' ρ (upd S m (.cells e (spl cs (len * sz) Y.flatten))) (.c (.win m 0 (len + Y.length) cm)) v := by
  have hYz := srcR_len he hx hsrc
  obtain ⟨-, A, cap, rfl, q1, q2, q3⟩ := hs
  rcases srcR_held he (by omega) hx hsrc with ⟨rfl, A', c, rfl⟩ | ⟨hY, b, off, c, news, rfl, hnews, hcell⟩
  · have e1 : spl cs (len * sz) ([] : List (List Cell)).flatten = cs := by simp [Abs.spl]
    rw [e1, upd_self hm]
    exact ⟨_, w, run_append_none ht (by omega) A A' len cap c (by omega) ty, he, Ext.refl _ _ _, ⟨_, hm, rfl⟩, A, cap, rfl, by simpa using q1, q2, q3⟩
  · have hpos : 0 < Y.length := List.length_pos_iff.2 hY
    have hnl : news.length = Y.length * sz := by rw [← hnews.1, flat_len hYz]
    obtain ⟨rfl, ty2, q, ⟨cur2, g1, g2⟩, g3⟩ := q3 (by omega)
    obtain ⟨cur, f1, f0, f2⟩ := he.obj m _ hm
    rw [f1] at g1
    injection g1 with g1
    injection g1 with g1 g4
    subst g1 g4
    have hcur : cs.length ≤ cur.size := by
      rcases Nat.lt_or_ge cur.size cs.length with q | q
      · obtain ⟨u, p1, _⟩ := f2 cur.size _ (List.getElem?_eq_getElem q)
        rw [Array.getElem?_eq_none (Nat.le_refl _)] at p1; cases p1
      · exact q
    have hle : len * sz + Y.length * sz ≤ cs.length := by rw [← Nat.add_mul]; exact h2
    cases ei : P.info? e with
    | none => simp [zeroOf, ei] at hz
    | some i =>
      have hsz : i.size = sz := by simpa [Program.cellsOf, ei] using hc1
      subst hsz
      have hone : ∀ u ∈ news, u.oneCell' = true := fun u hu => by
        obtain ⟨j, hj, rfl⟩ := List.getElem_of_mem hu
        obtain ⟨u', p1, p2, -⟩ := hnews.2 j _ (List.getElem?_eq_getElem (by rw [hnews.1]; exact hj))
        rw [List.getElem?_eq_getElem hj] at p1
        obtain rfl := Option.some.inj p1
        exact p2
      have hrun := run_append_room (P := P) w t ty e i ht ei (ρ m) len cap cur f1 ⟨b, off, none⟩ Y.length c news hnl (fun j u hj => by rw [add_pl]; exact hcell j u hj) hone (by omega) (by omega)
      have hput := Put.of_setRow f1 (cur.toList.take (len * i.size) ++ news ++ cur.toList.drop (len * i.size + news.length)).toArray
      generalize hW : w.setRow (ρ m) (cur.toList.take (len * i.size) ++ news ++ cur.toList.drop (len * i.size + news.length)).toArray = W at hrun hput
      have hsize : (cur.toList.take (len * i.size) ++ news ++ cur.toList.drop (len * i.size + news.length)).toArray.size = cur.size := by
        simp [hnl]; omega
      have hext := hput.ext (o' := .cells e (spl cs (len * i.size) Y.flatten)) hm rfl rfl f1 hsize
      have hfl : Y.flatten.length = news.length := hnews.1
      refine ⟨_, _, hrun, hput.env he hm rfl rfl f1 hsize ⟨_, hput.at_, by rw [hsize, f0]; simp [Abs.spl, hfl, hnl]; omega, fun j y hj => ?_⟩, hext, ⟨_, upd_same _ _ _, rfl⟩, _, cap, rfl, h1, q2, fun hc => ⟨rfl, e, _, ⟨_, hput.at_, hsize⟩, by omega⟩⟩
      simp only [List.getElem?_toArray]
      unfold Abs.spl at hj
      rw [List.append_assoc] at hj ⊢
      rcases Nat.lt_or_ge j (len * i.size) with h | h
      · rw [List.getElem?_append_left (by simp; omega), List.getElem?_take_of_lt h] at hj
        rw [List.getElem?_append_left (by simp; omega), List.getElem?_take_of_lt h]
        obtain ⟨u, p1, p2, p3⟩ := f2 j y hj
        exact ⟨u, by simpa using p1, p2, p3.ext hext⟩
      · rw [List.getElem?_append_right (by simp; omega), List.length_take, Nat.min_eq_left (by omega)] at hj
        rw [List.getElem?_append_right (by simp; omega), List.length_take, Nat.min_eq_left (by simp; omega)]
        rcases Nat.lt_or_ge (j - len * i.size) news.length with h' | h'
        · rw [List.getElem?_append_left (by omega)] at hj
          rw [List.getElem?_append_left h']
          obtain ⟨u, p1, p2, p3⟩ := hnews.2 _ y hj
          exact ⟨u, p1, p2, p3.ext hext⟩
        · rw [List.getElem?_append_right (by omega), List.getElem?_drop] at hj
          rw [List.getElem?_append_right h', List.getElem?_drop]
          rw [hfl] at hj
          obtain ⟨u, p1, p2, p3⟩ := f2 _ y hj
          exact ⟨u, by simpa using p1, p2, p3.ext hext⟩

theorem append_roomI (he : EnvS w ρ S) {t e ty : TypeId} (ht : P.underlying t = some (.slice e)) (hc1 : P.cellsOf e = 1) {k : IntKind} (hz : zeroOf P e = some (.int k 0)) {m : Nm} {L Y : List Int} {len cm : Nat}
    (hm : S m = some (.ints e k L)) (h1 : len + Y.length ≤ cm) (h2 : len + Y.length ≤ L.length) {sv xv : Value} (hs : VS w ρ S (.c (.win m 0 len cm)) sv) {x : AVal} (hx : VS w ρ S x xv) (hsrc : srcR S x 1 (ir k Y)) :
    ∃ v w', (Builtin.append_ #[t, t] ty #[sv, xv]).run P w = .ok v w' ∧ EnvS w' ρ (upd S m (.ints e k (L.take len ++ Y ++ L.drop (len + Y.length)))) ∧
      Ext (fun _ => False) w ρ S w' ρ (upd S m (.ints e k (L.take len ++ Y ++ L.drop (len + Y.length)))) ∧ VS w' ρ (upd S m (.ints e k (L.take len ++ Y ++ L.drop (len + Y.length)))) (.c (.win m 0 (len + Y.length) cm)) v := by
  obtain ⟨-, A, cap, rfl, q1, q2, q3⟩ := hs
  rcases srcR_held he (by omega) hx hsrc with ⟨hY0, A', c, rfl⟩ | ⟨hY, b, off, c, news, rfl, hnews, hcell⟩
  · have hY0 : Y = [] := by simpa using hY0
    subst hY0
    have e1 : L.take len ++ [] ++ L.drop (len + ([] : List Int).length) = L := by simp
    rw [e1, upd_self hm]
    exact ⟨_, w, run_append_none ht (by omega) A A' len cap c (by omega) ty, he, Ext.refl _ _ _, ⟨_, hm, rfl⟩, A, cap, rfl, by simpa using q1, q2, q3⟩
  · have hpos : 0 < Y.length := List.length_pos_iff.2 (by intro e; exact hY (by rw [e]; rfl))
    rw [flat_ir] at hnews
    have hnews' : news = Y.map (Value.int k) := by
      apply List.ext_getElem?
      intro j
      rcases Nat.lt_or_ge j Y.length with g | g
      · obtain ⟨u, p1, -, p3⟩ := hnews.2 j (.sc (.int k Y[j])) (by simp [intsOf])
        have : u = .int k Y[j] := p3
        rw [p1, this, List.getElem?_map, List.getElem?_eq_getElem g]; rfl
      · rw [List.getElem?_eq_none (by rw [← hnews.1]; simpa [intsOf] using g), List.getElem?_eq_none (by simpa using g)]
    subst hnews'
    rw [show (ir k Y).length = Y.length from List.length_map ..]
    obtain ⟨rfl, ty2, sz, ⟨cur2, g1, g2⟩, g3⟩ := q3 (by omega)
    obtain ⟨cur, f1, f2⟩ := he.obj m _ hm
    rw [f1] at g1
    injection g1 with g1
    injection g1 with g1 g4
    subst g1 g4
    cases ei : P.info? e with
    | none => simp [zeroOf, ei] at hz
    | some i =>
      have hsz : i.size = 1 := by simpa [Program.cellsOf, ei] using hc1
      have hrun := run_append_room (P := P) w t ty e i ht ei (ρ m) len cap cur f1 ⟨b, off, none⟩ (ir k Y).length c (Y.map (Value.int k)) (by simp [hsz]) (fun j u hj => by rw [add_pl]; exact hcell j u hj)
        (fun u hu => by simp at hu; obtain ⟨y, -, rfl⟩ := hu; rfl) (by simp; omega) (by simp [hsz]; omega)
      rw [show (ir k Y).length = Y.length from List.length_map ..] at hrun
      have hput := Put.of_setRow f1 (cur.toList.take (len * i.size) ++ Y.map (Value.int k) ++ cur.toList.drop (len * i.size + (Y.map (Value.int k)).length)).toArray
      have hsize : (cur.toList.take (len * i.size) ++ Y.map (Value.int k) ++ cur.toList.drop (len * i.size + (Y.map (Value.int k)).length)).toArray.size = cur.size := by
        simp [hsz]; omega
      have hext := hput.ext (o' := .ints e k (L.take len ++ Y ++ L.drop (len + Y.length))) hm rfl rfl f1 hsize
      refine ⟨_, _, hrun, hput.env he hm rfl rfl f1 hsize ⟨_, hput.at_, fun j y hj => ?_⟩, hext, ⟨_, upd_same _ _ _, rfl⟩, _, cap, rfl, h1, q2, fun hc => ⟨rfl, e, _, ⟨_, hput.at_, hsize⟩, by omega⟩⟩
      simp only [hsz, Nat.mul_one, List.length_map, List.getElem?_toArray]
      rw [List.append_assoc] at hj ⊢
      rcases Nat.lt_or_ge j len with h | h
      · rw [List.getElem?_append_left (by simp; omega), List.getElem?_take_of_lt h] at hj
        rw [List.getElem?_append_left (by simp; omega), List.getElem?_take_of_lt h]
        simpa using f2 j y hj
      · rw [List.getElem?_append_right (by simp; omega), List.length_take, Nat.min_eq_left (by omega)] at hj
        rw [List.getElem?_append_right (by simp; omega), List.length_take, Nat.min_eq_left (by simp; omega)]
        rcases Nat.lt_or_ge (j - len) Y.length with h' | h'
        · rw [List.getElem?_append_left h'] at hj
          rw [List.getElem?_append_left (by simpa using h'), List.getElem?_map, hj]; rfl
        · rw [List.getElem?_append_right h', List.getElem?_drop] at hj
          rw [List.getElem?_append_right (by simpa using h'), List.getElem?_drop, List.length_map]
          have := f2 _ y hj
          simpa using this

/-! ### Copies -/
def copyE (P : Program) (r : Operand → AVal) (S : Store) (c : Call) (v : AVal) (S' : Store) : Prop :=
  match c.args.toList, c.argTypes.toList with
  | [s, x], [t, _] => ∃ e k Y m off len cm cs, P.underlying t = some (.slice e) ∧ P.cellsOf e = k ∧ 0 < k ∧ r s = .c (.win m off len cm) ∧ srcR S (r x) k Y ∧ S m = some (.cells e cs) ∧ off + min Y.length len * k ≤ cs.length ∧
      v = ivl .i64 ((min Y.length len : Nat) : Int) ∧ S' = upd S m (.cells e (spl cs off (Y.take (min Y.length len)).flatten))
  | _, _ => False

theorem flatten_take {sz : Nat} : ∀ {Y : List (List Cell)}, (∀ c ∈ Y, c.length = sz) → ∀ n, (Y.take n).flatten = Y.flatten.take (n * sz)
  | [], _, n => by simp
  | y :: Y, h, 0 => by simp
  | y :: Y, h, n + 1 => by
    have h1 : y.length = sz := h y (by simp)
    rw [List.take_succ_cons, List.flatten_cons, List.flatten_cons, flatten_take (fun c hc => h c (by simp [hc])) n, List.take_append, h1, List.take_of_length_le (l := y) (by rw [h1, Nat.succ_mul]; omega), Nat.succ_mul, Nat.add_sub_cancel]

theorem copyE_run (he : EnvS w ρ S) (hr : ∀ x, VS w ρ S (r x) (η x)) {args : Array Operand} {tys : Array TypeId} {cl : Callee} {ty : TypeId} {v : AVal} {S' : Store} (h : copyE P r S ⟨cl, args, tys⟩ v S') :
    ∃ u w', (Builtin.copy_ tys ty (args.map η)).run P w = .ok u w' ∧ EnvS w' ρ S' ∧ Ext (fun _ => False) w ρ S w' ρ S' ∧ VS w' ρ S' v u := by
  unfold copyE at h
  split at h
  · rename_i s x t t' ea et
    obtain ⟨e, k, Y, m, off, len, cm, cs, ht, hc1, hk, es, hsrc, hm, hroom, rfl, rfl⟩ := h
    have ea' : args = #[s, x] := by rw [← Array.toList_inj]; simpa using ea
    have et' : tys = #[t, t'] := by rw [← Array.toList_inj]; simpa using et
    subst ea' et'
    have hs := hr s
    rw [es] at hs
    have hx := hr x
    have hYz := srcR_len he hx hsrc
    obtain ⟨-, A, cap, e1, q1, q2, q3⟩ := hs
    have hce : P.cellsOf e ≠ 0 := by omega
    by_cases h0 : min Y.length len = 0
    · have e2 : spl cs off (Y.take (min Y.length len)).flatten = cs := by simp [Abs.spl, h0]
      rw [e2, upd_self hm, h0]
      have hu : ∃ B n c, η x = .slice B n c ∧ Nat.min n len = 0 := by
        rcases srcR_held he (by omega) hx hsrc with ⟨-, A', c, q⟩ | ⟨hY, b, off', c, news, q, -, -⟩
        · exact ⟨_, _, _, q, Nat.zero_min _⟩
        · exact ⟨_, _, _, q, h0⟩
      obtain ⟨B, n, c, q, hn⟩ := hu
      refine ⟨.int .i64 0, w, ?_, he, Ext.refl _ _ _, rfl⟩
      have hl : ∀ a : Addr, (loadCells a 0).run P w = .ok #[] w := fun a => by simp [loadCells, loadCellsFrom]
      have hst : ∀ a : Addr, (storeCells a []).run P w = .ok () w := fun a => by simp [storeCells]
      simp only [Builtin.copy_, List.map_toArray, List.map_cons, List.map_nil, e1, q, Sem.run_bind, run_underlying' ht, Result.andThen_ok, Builtin.lenOf, Sem.run_pure, hn, run_sizeOf' hce, Builtin.firstCells]
      cases B <;> cases A <;> simp [hl, hst, run_underlying' ht, Builtin.lenOf, hn, run_sizeOf' hce, Builtin.firstCells, goInt]
    · rcases srcR_held he (by omega) hx hsrc with ⟨rfl, -⟩ | ⟨hY, b, off', c, news, q, hnews, hcell⟩
      · simp at h0
      · have hnl : news.length = Y.length * k := by rw [← hnews.1, flat_len hYz]
        obtain ⟨n, hnd⟩ : ∃ n, n = min Y.length len := ⟨_, rfl⟩
        rw [← hnd] at hroom h0 ⊢
        have hn1 : n ≤ Y.length := by omega
        have hn2 : n ≤ len := by omega
        have hnk : n * k ≤ news.length := by rw [hnl]; exact Nat.mul_le_mul_right _ hn1
        obtain ⟨rfl, ty2, q', ⟨cur2, g1, g2⟩, g3⟩ := q3 (by omega)
        obtain ⟨cur, f1, f0, f2⟩ := he.obj m _ hm
        have hW := run_storeCells_at P (ρ m) off e (news.take (n * k)) 0 cur w f1 (by rw [List.length_take, Nat.min_eq_left hnk, f0]; omega) (fun u hu => by
          obtain ⟨j, hj, rfl⟩ := List.getElem_of_mem (List.mem_of_mem_take hu)
          obtain ⟨u', p1, p2, -⟩ := hnews.2 j _ (List.getElem?_eq_getElem (by rw [hnews.1]; exact hj))
          rw [List.getElem?_eq_getElem hj] at p1
          obtain rfl := Option.some.inj p1
          exact p2)
        have hld := run_loadCells_at (P := P) (w := w) b off' (news.take (n * k)) (fun j u hu => by
          have hlt := (List.getElem?_eq_some_iff.1 hu).1
          rw [List.length_take] at hlt
          rw [List.getElem?_take_of_lt (by omega)] at hu
          exact hcell j u hu)
        have hlen : (news.take (n * k)).length = n * k := by rw [List.length_take, Nat.min_eq_left hnk]
        rw [hlen] at hld
        rw [Nat.add_zero, hlen] at hW
        have hput := Put.of_setRow f1 (cur.toList.take off ++ news.take (n * k) ++ cur.toList.drop (off + n * k)).toArray
        generalize hWW : w.setRow (ρ m) (cur.toList.take off ++ news.take (n * k) ++ cur.toList.drop (off + n * k)).toArray = W at hW hput
        have hsize : (cur.toList.take off ++ news.take (n * k) ++ cur.toList.drop (off + n * k)).toArray.size = cur.size := by
          simp only [List.size_toArray, List.length_append, List.length_take, List.length_drop, Array.length_toList, hlen, Nat.min_eq_left hnk]; omega
        have hfl : (Y.take n).flatten = Y.flatten.take (n * k) := flatten_take hYz n
        have hfll : (Y.take n).flatten.length = n * k := by rw [hfl, List.length_take, hnews.1, Nat.min_eq_left hnk]
        have hext := hput.ext (o' := .cells e (spl cs off (Y.take n).flatten)) hm rfl rfl f1 hsize
        refine ⟨.int .i64 n, W, ?_, hput.env he hm rfl rfl f1 hsize ⟨_, hput.at_, by rw [hsize, f0]; simp only [Abs.spl, List.length_append, List.length_take, List.length_drop, hfll]; omega, fun j y hj => ?_⟩, hext, rfl⟩
        · have hmin : Nat.min Y.length len = n := hnd.symm
          simp only [Builtin.copy_, List.map_toArray, List.map_cons, List.map_nil, e1, q, Sem.run_bind, run_underlying' ht, Result.andThen_ok, Builtin.lenOf, Sem.run_pure, hmin, run_sizeOf' hce, Builtin.firstCells]
          simp [hmin, hc1, run_underlying' ht, Builtin.lenOf, run_sizeOf' hce, Builtin.firstCells, hld, hW, goInt]
        · simp only [List.getElem?_toArray]
          unfold Abs.spl at hj
          rw [List.append_assoc] at hj ⊢
          rcases Nat.lt_or_ge j off with g | g
          · rw [List.getElem?_append_left (by simp; omega), List.getElem?_take_of_lt g] at hj
            rw [List.getElem?_append_left (by simp; omega), List.getElem?_take_of_lt g]
            obtain ⟨u, p1, p2, p3⟩ := f2 j y hj
            exact ⟨u, by simpa using p1, p2, p3.ext hext⟩
          · rw [List.getElem?_append_right (by simp; omega), List.length_take, Nat.min_eq_left (by omega)] at hj
            rw [List.getElem?_append_right (by simp; omega), List.length_take, Nat.min_eq_left (by simp; omega)]
            rcases Nat.lt_or_ge (j - off) (n * k) with g' | g'
            · rw [List.getElem?_append_left (by rw [hfll]; exact g'), hfl, List.getElem?_take_of_lt g'] at hj
              rw [List.getElem?_append_left (by rw [hlen]; exact g'), List.getElem?_take_of_lt g']
              obtain ⟨u, p1, p2, p3⟩ := hnews.2 _ y hj
              exact ⟨u, p1, p2, p3.ext hext⟩
            · rw [List.getElem?_append_right (by rw [hfll]; exact g'), List.getElem?_drop, hfll] at hj
              rw [List.getElem?_append_right (by rw [hlen]; exact g'), List.getElem?_drop, hlen]
              rw [show off + n * k + (j - off - n * k) = j by omega] at hj ⊢
              obtain ⟨u, p1, p2, p3⟩ := f2 j y hj
              exact ⟨u, by simpa using p1, p2, p3.ext hext⟩
  · exact h.elim
end
end Go.Abs
