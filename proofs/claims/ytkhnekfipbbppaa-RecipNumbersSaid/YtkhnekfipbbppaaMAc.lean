/-
  An abstract machine for this program, contracts of its functions: part MAc (no statement by itself).
-/
import Derived.Test.YtkhnekfipbbppaaMAb
set_option linter.unusedVariables false
set_option linter.unusedSimpArgs false

/-
  States told by lists; what an operation yields, told by a function.
-/
namespace Go.Abs
open Go

abbrev FL := List (Nat × AVal)
abbrev SL := List (Nm × AObj)

def lkO : FL → Nat → Option AVal
  | [], _ => none
  | (s, v) :: r, t => match Nat.beq s t with
    | true => some v
    | false => lkO r t
def lk' (fl : FL) : Fram := fun t => (lkO fl t).getD (.c .junk)
def opO (fl : FL) : Operand → Option AVal
  | .tmp t => lkO fl t
  | .const v => some (.c (.sc v))
  | .global _ => none
  | .func f => some (.fn f [])
def opsO (fl : FL) : List Operand → Option (List AVal)
  | [] => some []
  | x :: xs => match opO fl x with
    | some v => match opsO fl xs with
      | some vs => some (v :: vs)
      | none => none
    | none => none

def lkS : SL → Nm → Option AObj
  | [], _ => none
  | (n, o) :: r, m => if m = n then some o else lkS r m
def ov (sl : SL) (S : Store) : Store := fun m => match lkS sl m with | some o => some o | none => S m

theorem lkS_hd {m : Nm} {o : AObj} {r : SL} : lkS ((m, o) :: r) m = some o := by simp [lkS]
theorem lkS_tl {n m : Nm} {o o' : AObj} {r : SL} (h : m ≠ n) (h2 : lkS r m = some o) : lkS ((n, o') :: r) m = some o := by simp [lkS, h, h2]
@[irreducible] def lkI (sl : SL) (m : Nm) : Option AObj := lkS sl m
theorem lkI_hd {m : Nm} {o : AObj} {r : SL} : lkI ((m, o) :: r) m = some o := by unfold lkI; exact lkS_hd
theorem lkI_tl {n m : Nm} {o o' : AObj} {r : SL} (h : m ≠ n) (h2 : lkI r m = some o) : lkI ((n, o') :: r) m = some o := by unfold lkI at *; exact lkS_tl h h2
theorem lk1 {sl : SL} {m : Nm} {o : AObj} (t : lkI sl m = some o := by exact lkI_hd) : lkI sl m = some o := t
theorem lk2 {sl : SL} {m : Nm} {o : AObj} (t : lkI sl m = some o := by first | exact lkI_hd | exact lkI_tl (by first | (simp; done) | (simp; first | assumption | exact Ne.symm (by assumption))) lk1) : lkI sl m = some o := t
theorem lk3 {sl : SL} {m : Nm} {o : AObj} (t : lkI sl m = some o := by first | exact lkI_hd | exact lkI_tl (by first | (simp; done) | (simp; first | assumption | exact Ne.symm (by assumption))) lk2) : lkI sl m = some o := t
theorem lk4 {sl : SL} {m : Nm} {o : AObj} (t : lkI sl m = some o := by first | exact lkI_hd | exact lkI_tl (by first | (simp; done) | (simp; first | assumption | exact Ne.symm (by assumption))) lk3) : lkI sl m = some o := t
theorem lk5 {sl : SL} {m : Nm} {o : AObj} (t : lkI sl m = some o := by first | exact lkI_hd | exact lkI_tl (by first | (simp; done) | (simp; first | assumption | exact Ne.symm (by assumption))) lk4) : lkI sl m = some o := t
theorem lk6 {sl : SL} {m : Nm} {o : AObj} (t : lkI sl m = some o := by first | exact lkI_hd | exact lkI_tl (by first | (simp; done) | (simp; first | assumption | exact Ne.symm (by assumption))) lk5) : lkI sl m = some o := t
theorem lk7 {sl : SL} {m : Nm} {o : AObj} (t : lkI sl m = some o := by first | exact lkI_hd | exact lkI_tl (by first | (simp; done) | (simp; first | assumption | exact Ne.symm (by assumption))) lk6) : lkI sl m = some o := t
theorem lk8 {sl : SL} {m : Nm} {o : AObj} (t : lkI sl m = some o := by first | exact lkI_hd | exact lkI_tl (by first | (simp; done) | (simp; first | assumption | exact Ne.symm (by assumption))) lk7) : lkI sl m = some o := t
theorem lk9 {sl : SL} {m : Nm} {o : AObj} (t : lkI sl m = some o := by first | exact lkI_hd | exact lkI_tl (by first | (simp; done) | (simp; first | assumption | exact Ne.symm (by assumption))) lk8) : lkI sl m = some o := t
theorem lks {sl : SL} {m : Nm} {o : AObj} (t : lkI sl m = some o := by first | exact lkI_hd | exact lkI_tl (by first | (simp; done) | (simp; first | assumption | exact Ne.symm (by assumption))) lk9) : lkS sl m = some o := by unfold lkI at t; exact t
theorem ov_of {sl : SL} {S : Store} {m : Nm} {o : AObj} (h : lkS sl m = some o) : ov sl S m = some o := by simp [ov, h]
theorem upd_ov (sl : SL) (S : Store) (m : Nm) (o : AObj) : upd (ov sl S) m o = ov ((m, o) :: sl) S := by
  funext n; simp only [upd, ov, lkS]; split <;> rfl
theorem putF_lk (fl : FL) (d : Nat) (v : AVal) : putF (lk' fl) (some d) v = lk' ((d, v) :: fl) := by
  funext t
  simp only [putF, lk', lkO]
  by_cases h : t = d
  · subst h; simp [Nat.beq_refl]
  · rw [if_neg h]
    have : Nat.beq d t = false := by
      cases e : Nat.beq d t with
      | false => rfl
      | true => exact absurd (Nat.eq_of_beq_eq_true e).symm h
    simp [this]
theorem lkO_look {fl : FL} {t : Nat} {v : AVal} (h : lkO fl t = some v) : lk' fl t = v := by simp [lk', h]
theorem opO_look {fl : FL} {x : Operand} {v : AVal} (h : opO fl x = some v) : look (lk' fl) x = v := by
  cases x with
  | tmp t => exact lkO_look h
  | const c => simpa [opO, look] using h
  | global g => cases h
  | func f => simpa [opO, look] using h
theorem opsO_look {fl : FL} : ∀ {xs : List Operand} {vs : List AVal}, opsO fl xs = some vs → xs.map (look (lk' fl)) = vs
  | [], vs, h => by simp only [opsO, Option.some.injEq] at h; simp [← h]
  | x :: xs, vs, h => by
    simp only [opsO] at h
    split at h
    · rename_i v hv
      split at h
      · rename_i vs' hvs
        simp only [Option.some.injEq] at h
        subst h
        simp [opO_look hv, opsO_look hvs]
      · cases h
    · cases h

/-- A whole number as it is (ex: it must be in range), or cut to the kind. -/
def resI (ex : Bool) (k : IntKind) (n : Int) (C : Prop) : Option (AVal × Prop) :=
  match ex with
  | false => some (ivl k (k.wrap n), C)
  | true => match k with
    | .u64 => some (ivl .u64 n, (0 ≤ n ∧ n < 18446744073709551616) ∧ C)
    | .i64 => some (ivl .i64 n, (-9223372036854775808 ≤ n ∧ n < 9223372036854775808) ∧ C)
    | .u32 => some (ivl .u32 n, (0 ≤ n ∧ n < 4294967296) ∧ C)
    | .i32 => some (ivl .i32 n, (-2147483648 ≤ n ∧ n < 2147483648) ∧ C)
    | .u16 => some (ivl .u16 n, (0 ≤ n ∧ n < 65536) ∧ C)
    | .i16 => some (ivl .i16 n, (-32768 ≤ n ∧ n < 32768) ∧ C)
    | .u8 => some (ivl .u8 n, (0 ≤ n ∧ n < 256) ∧ C)
    | .i8 => some (ivl .i8 n, (-128 ≤ n ∧ n < 128) ∧ C)

theorem wrap_in {k : IntKind} {n : Int} (h : match k with
    | .u64 => 0 ≤ n ∧ n < 18446744073709551616
    | .i64 => -9223372036854775808 ≤ n ∧ n < 9223372036854775808
    | .u32 => 0 ≤ n ∧ n < 4294967296
    | .i32 => -2147483648 ≤ n ∧ n < 2147483648
    | .u16 => 0 ≤ n ∧ n < 65536
    | .i16 => -32768 ≤ n ∧ n < 32768
    | .u8 => 0 ≤ n ∧ n < 256
    | .i8 => -128 ≤ n ∧ n < 128) : k.wrap n = n := by
  cases k <;> simp only [] at h <;> simp [IntKind.wrap, IntKind.bits, IntKind.signed] <;> (try split) <;> omega

theorem resI_spec {ex : Bool} {k : IntKind} {n : Int} {C D : Prop} {v : AVal} (h : resI ex k n C = some (v, D)) (hd : D) : C ∧ v = ivl k (k.wrap n) := by
  cases ex with
  | false => simp only [resI, Option.some.injEq, Prod.mk.injEq] at h; obtain ⟨rfl, rfl⟩ := h; exact ⟨hd, rfl⟩
  | true =>
    cases k <;> simp only [resI, Option.some.injEq, Prod.mk.injEq] at h <;> obtain ⟨rfl, rfl⟩ := h <;> exact ⟨hd.2, by rw [wrap_in (by exact hd.1)]⟩

def cmpP (op : BinOp) (a b : Int) : Option Prop :=
  match op with
  | .eql => some (a = b)
  | .neq => some (¬ a = b)
  | .lss => some (a < b)
  | .leq => some (a ≤ b)
  | .gtr => some (b < a)
  | .geq => some (b ≤ a)
  | _ => none

def kEq : IntKind → IntKind → Bool
  | .u64, .u64 | .i64, .i64 | .u32, .u32 | .i32, .i32 | .u16, .u16 | .i16, .i16 | .u8, .u8 | .i8, .i8 => true
  | _, _ => false
theorem kEq_eq {k k' : IntKind} (h : kEq k k' = true) : k = k' := by cases k <;> cases k' <;> first | rfl | cases h

/-- Whole numbers put together. -/
def arF (ex : Bool) (op : BinOp) (k : IntKind) (a b : Int) : Option (AVal × Prop) :=
  match op with
  | .add => resI ex k (a + b) True
  | .sub => resI ex k (a - b) True
  | .mul => resI ex k (a * b) True
  | .quo => match ex with
    | true => resI true k (a / b) (0 ≤ a ∧ b ≠ 0)
    | false => resI false k (a.tdiv b) (b ≠ 0)
  | .rem => match ex with
    | true => some (ivl k (a % b), 0 ≤ a ∧ b ≠ 0)
    | false => some (ivl k (a.tmod b), b ≠ 0)
  | _ => none

theorem arF_spec {ex : Bool} {op : BinOp} {k : IntKind} {a b : Int} {v : AVal} {C : Prop} (h : arF ex op k a b = some (v, C)) (hc : C) : isShift op = false ∧ intE op k a b v := by
  cases op <;> simp only [arF] at h <;> (first | cases h; done | skip)
  case add => exact ⟨rfl, (resI_spec h hc).2⟩
  case sub => exact ⟨rfl, (resI_spec h hc).2⟩
  case mul => exact ⟨rfl, (resI_spec h hc).2⟩
  case quo =>
    cases ex with
    | false => obtain ⟨h1, h2⟩ := resI_spec h hc; exact ⟨rfl, h1, h2⟩
    | true =>
      obtain ⟨⟨h1, h3⟩, h2⟩ := resI_spec h hc
      refine ⟨rfl, h3, ?_⟩
      rw [Int.tdiv_eq_ediv_of_nonneg h1]; exact h2
  case rem =>
    cases ex with
    | false => simp only [Option.some.injEq, Prod.mk.injEq] at h; obtain ⟨rfl, rfl⟩ := h; exact ⟨rfl, hc, rfl⟩
    | true =>
      simp only [Option.some.injEq, Prod.mk.injEq] at h
      obtain ⟨rfl, rfl⟩ := h
      exact ⟨rfl, hc.2, by rw [Int.tmod_eq_emod_of_nonneg hc.1]⟩

def shF (ex : Bool) (op : BinOp) (k : IntKind) (a b : Int) : Option (AVal × Prop) :=
  match ex, op with
  | false, .shl => resI false k (a * 2 ^ (min b.toNat k.bits)) (0 ≤ b)
  | false, .shr => some (ivl k (a.fdiv (2 ^ (min b.toNat k.bits))), 0 ≤ b)
  | _, _ => none
theorem shF_spec {ex : Bool} {op : BinOp} {k : IntKind} {a b : Int} {v : AVal} {C : Prop} (h : shF ex op k a b = some (v, C)) (hc : C) : isShift op = true ∧ shiftE op k a b v := by
  unfold shF at h
  split at h
  · obtain ⟨h1, h2⟩ := resI_spec h hc; exact ⟨rfl, h1, h2⟩
  · simp only [Option.some.injEq, Prod.mk.injEq] at h; obtain ⟨rfl, rfl⟩ := h; exact ⟨rfl, hc, rfl⟩
  · cases h

def binF (ex : Bool) (op : BinOp) (x y : AVal) : Option (AVal × Prop) :=
  match x, y with
  | .c (.sc (.int k a)), .c (.sc (.int k' b)) => match isShift op with
    | true => shF ex op k a b
    | false => match kEq k k' with
      | true => arF ex op k a b
      | false => none
  | _, _ => none

theorem binF_spec {P : Program} {T : TypeId} {ex : Bool} {op : BinOp} {x y v : AVal} {C : Prop} (h : binF ex op x y = some (v, C)) (hc : C) : binE P op T x y v := by
  unfold binF at h
  split at h
  · rename_i k a k' b
    simp only [binE]
    split at h
    · rename_i e; rw [if_pos e]; exact (shF_spec h hc).2
    · rename_i e
      split at h
      · rename_i e2
        rw [if_neg (by simp [e])]
        exact ⟨kEq_eq e2, (arF_spec h hc).2⟩
      · cases h
  · cases h

def unF (ex : Bool) (op : UnOp) (x : AVal) : Option (AVal × Prop) :=
  match op, x with
  | .neg, .c (.sc (.int k n)) => resI ex k (0 - n) True
  | .xor, .c (.sc (.int k n)) => some (ivl k (k.wrap (BitVec.ofInt k.bits (if k.signed then -1 else k.max) ^^^ BitVec.ofInt k.bits n).toNat), True)
  | .not, .c (.sc (.bool b)) => some (bvl (!b), True)
  | _, _ => none
theorem unF_spec {ex : Bool} {op : UnOp} {x v : AVal} {C : Prop} (h : unF ex op x = some (v, C)) (hc : C) : unE op x v := by
  unfold unF at h
  split at h
  · exact (resI_spec h hc).2
  · simp only [Option.some.injEq, Prod.mk.injEq] at h; exact h.1.symm
  · simp only [Option.some.injEq, Prod.mk.injEq] at h; exact h.1.symm
  · cases h

def lenF (x : AVal) : Option AVal :=
  match x with
  | .c (.ints _ L) => some (ivl .i64 L.length)
  | .c (.intc _ _ n) => some (ivl .i64 n)
  | .c (.seq _ L) => some (ivl .i64 L.length)
  | .c (.win _ _ n _) => some (ivl .i64 n)
  | .c (.sc (.slice none 0 0)) => some (ivl .i64 0)
  | _ => none

def bndL (fl : FL) : Option Operand → Option (Option Int)
  | none => some none
  | some x => match opO fl x with
    | some (.c (.sc (.int _ i))) => some (some i)
    | _ => none
def bndC (lo hi : Option Int) (n c : Nat) : Nat × Nat × Prop :=
  match lo, hi with
  | none, none => (0, n, n ≤ c)
  | some a, none => (a.toNat, n, 0 ≤ a ∧ a ≤ n ∧ n ≤ c)
  | none, some b => (0, b.toNat, 0 ≤ b ∧ b ≤ c)
  | some a, some b => (a.toNat, b.toNat, 0 ≤ a ∧ a ≤ b ∧ b ≤ c)
theorem bnd_spec {fl : FL} {lo hi : Option Operand} {a b : Option Int} {n c : Nat} (h1 : bndL fl lo = some a) (h2 : bndL fl hi = some b) (hc : (bndC a b n c).2.2) :
    bndE (look (lk' fl)) lo hi n c (bndC a b n c).1 (bndC a b n c).2.1 := by
  have one : ∀ {x : Operand} {a : Option Int}, bndL fl (some x) = some a → ∃ k i, a = some i ∧ look (lk' fl) x = ivl k i := by
    intro x a h
    simp only [bndL] at h
    split at h
    · rename_i k i e; exact ⟨k, i, (Option.some.inj h).symm, opO_look e⟩
    · cases h
  cases lo with
  | none =>
    simp only [bndL, Option.some.injEq] at h1
    subst h1
    cases hi with
    | none => simp only [bndL, Option.some.injEq] at h2; subst h2; exact ⟨rfl, rfl, Nat.zero_le _, hc⟩
    | some y =>
      obtain ⟨k, i, rfl, e⟩ := one h2
      refine ⟨rfl, by simp only [e, bndC]; exact ⟨hc.1, trivial⟩, Nat.zero_le _, ?_⟩
      have := hc.2; simp only [bndC]; omega
  | some x =>
    obtain ⟨k, i, rfl, e⟩ := one h1
    cases hi with
    | none =>
      simp only [bndL, Option.some.injEq] at h2; subst h2
      refine ⟨by simp only [e, bndC]; exact ⟨hc.1, trivial⟩, rfl, ?_, hc.2.2⟩
      have := hc.2.1; simp only [bndC]; omega
    | some y =>
      obtain ⟨k', j, rfl, e'⟩ := one h2
      obtain ⟨q1, q2, q3⟩ := hc
      refine ⟨by simp only [e, bndC]; exact ⟨q1, trivial⟩, by simp only [e', bndC]; exact ⟨by omega, trivial⟩, ?_, ?_⟩ <;> simp only [bndC] <;> omega

/-- What is known of the types. -/
structure TI where
  und : TypeDesc
  cells : Nat
  bytes : Nat
  agg : Bool
  zero : Value
abbrev TT := List (Nat × TI)
def tyO : TT → Nat → Option TI
  | [], _ => none
  | (s, v) :: r, t => match Nat.beq s t with
    | true => some v
    | false => tyO r t
def undT (T : TT) (t : Nat) : Option TypeDesc := match tyO T t with | some i => some i.und | none => none
def celT (T : TT) (t : Nat) : Nat := match tyO T t with | some i => i.cells | none => 0
def bytT (T : TT) (t : Nat) : Option Nat := match tyO T t with | some i => some i.bytes | none => none
def agT (T : TT) (t : Nat) : Option Bool := match tyO T t with | some i => some i.agg | none => none
def zerT (T : TT) (t : Nat) : Option Value := match tyO T t with | some i => some i.zero | none => none
def TIok (P : Program) (t : Nat) (i : TI) : Prop := P.underlying t = some i.und ∧ P.cellsOf t = i.cells ∧ P.bytesOf t = i.bytes ∧ aggT P t = some i.agg ∧ zeroOf P t = some i.zero
def TOk (P : Program) : TT → Prop
  | [] => True
  | (t, i) :: r => TIok P t i ∧ TOk P r
theorem TOk.at {P : Program} : ∀ {T : TT} {t : Nat} {i : TI}, TOk P T → tyO T t = some i → TIok P t i
  | (s, v) :: r, t, i, ⟨h1, h2⟩, h => by
    simp only [tyO] at h
    split at h
    · rename_i e
      have := Nat.eq_of_beq_eq_true e
      subst this
      obtain rfl := Option.some.inj h
      exact h1
    · exact TOk.at h2 h
section
variable {P : Program} {T : TT} (hT : TOk P T) {t : Nat}
include hT
theorem TOk.und {d : TypeDesc} (h : undT T t = some d) : P.underlying t = some d := by
  unfold undT at h; split at h
  · rename_i i hi; rw [← h]; exact (hT.at hi).1
  · cases h
theorem TOk.cel {n : Nat} (h : celT T t = n) (hn : n ≠ 0) : P.cellsOf t = n := by
  unfold celT at h; split at h
  · rename_i i hi; rw [← h]; exact (hT.at hi).2.1
  · exact absurd h.symm hn
theorem TOk.byt {n : Nat} (h : bytT T t = some n) : P.bytesOf t = n := by
  unfold bytT at h; split at h
  · rename_i i hi; rw [← Option.some.inj h]; exact (hT.at hi).2.2.1
  · cases h
theorem TOk.ag {b : Bool} (h : agT T t = some b) : aggT P t = some b := by
  unfold agT at h; split at h
  · rename_i i hi; rw [← h]; exact (hT.at hi).2.2.2.1
  · cases h
theorem TOk.zer {v : Value} (h : zerT T t = some v) : zeroOf P t = some v := by
  unfold zerT at h; split at h
  · rename_i i hi; rw [← h]; exact (hT.at hi).2.2.2.2
  · cases h
end

def sliceF (T : TT) (fl : FL) (t : TypeId) (x : Operand) (lo hi mx : Option Operand) : Option (AVal × Prop) :=
  match mx, undT T t, bndL fl lo, bndL fl hi with
  | none, some (.slice e), some a, some b => match celT T e with
    | 0 => none
    | 1 => match opO fl x with
      | some (.c (.ints k L)) => match bndC a b L.length L.length with | (l, h, C) => some (.c (.ints k ((L.drop l).take (h - l))), C)
      | some (.c (.intc k L n)) => match bndC a b n L.length with | (l, h, C) => some (.c (.intc k (L.drop l) (h - l)), C)
      | some (.c (.win m off len cm)) => match bndC a b len cm with | (l, h, C) => some (.c (.win m (off + l) (h - l) (cm - l)), C)
      | some (.c (.seq sz L)) => match Nat.beq sz 1, bndC a b L.length L.length with | true, (l, h, C) => some (.c (.seq sz ((L.drop l).take (h - l))), C) | false, _ => none
      | some (.c (.sc (.slice none 0 0))) => match bndC a b 0 0 with | (_, _, C) => some (nils, C)
      | _ => none
    | n => match opO fl x with
      | some (.c (.seq sz L)) => match Nat.beq sz n, bndC a b L.length L.length with | true, (l, h, C) => some (.c (.seq sz ((L.drop l).take (h - l))), C) | false, _ => none
      | some (.c (.sc (.slice none 0 0))) => match bndC a b 0 0 with | (_, _, C) => some (nils, C)
      | _ => none
  | _, _, _, _ => none

theorem sliceF_spec {P : Program} {T : TT} (hT : TOk P T) {fl : FL} {t : TypeId} {x : Operand} {lo hi mx : Option Operand} {v : AVal} {C : Prop} (h : sliceF T fl t x lo hi mx = some (v, C)) (hc : C) : sliceE P (look (lk' fl)) t x lo hi mx v := by
  unfold sliceF at h
  split at h
  · rename_i e a b hu h1 h2
    refine ⟨rfl, e, hT.und hu, ?_⟩
    split at h
    · cases h
    · rename_i hce
      have hce := hT.cel hce (by decide)
      refine ⟨by omega, ?_⟩
      split at h
      · rename_i k L hx
        rw [opO_look hx]
        simp only [Option.some.injEq, Prod.mk.injEq] at h
        obtain ⟨rfl, rfl⟩ := h
        exact ⟨hce, _, _, bnd_spec h1 h2 hc, rfl⟩
      · rename_i k L n hx
        rw [opO_look hx]
        simp only [Option.some.injEq, Prod.mk.injEq] at h
        obtain ⟨rfl, rfl⟩ := h
        exact ⟨hce, _, _, bnd_spec h1 h2 hc, rfl⟩
      · rename_i m off len cm hx
        rw [opO_look hx]
        simp only [Option.some.injEq, Prod.mk.injEq] at h
        obtain ⟨rfl, rfl⟩ := h
        exact ⟨_, _, bnd_spec h1 h2 hc, by rw [hce, Nat.mul_one], hce⟩
      · rename_i sz L hx
        rw [opO_look hx]
        split at h
        · rename_i q1 q2
          simp only [Option.some.injEq, Prod.mk.injEq] at h
          obtain ⟨rfl, rfl⟩ := h
          have := Nat.eq_of_beq_eq_true q1
          refine ⟨by omega, _, _, ?_, rfl⟩
          have hb := bnd_spec (n := L.length) (c := L.length) h1 h2 (by rw [q2]; exact hc)
          rw [q2] at hb
          exact hb
        · cases h
      · rename_i hx
        rw [opO_look hx]
        simp only [Option.some.injEq, Prod.mk.injEq] at h
        obtain ⟨rfl, rfl⟩ := h
        exact ⟨_, _, bnd_spec h1 h2 hc, rfl⟩
      · cases h
    · rename_i n q0 q1
      have q2' := hT.cel (t := e) rfl q0
      refine ⟨by rw [q2']; exact q0, ?_⟩
      split at h
      · rename_i sz L hx
        rw [opO_look hx]
        split at h
        · rename_i q3 q4
          simp only [Option.some.injEq, Prod.mk.injEq] at h
          obtain ⟨rfl, rfl⟩ := h
          have := Nat.eq_of_beq_eq_true q3
          refine ⟨by omega, _, _, ?_, rfl⟩
          have hb := bnd_spec (n := L.length) (c := L.length) h1 h2 (by rw [q4]; exact hc)
          rw [q4] at hb
          exact hb
        · cases h
      · rename_i hx
        rw [opO_look hx]
        simp only [Option.some.injEq, Prod.mk.injEq] at h
        obtain ⟨rfl, rfl⟩ := h
        exact ⟨_, _, bnd_spec h1 h2 hc, rfl⟩
      · cases h
  · cases h
end Go.Abs

/-
  Steps of operations on states told by lists.
-/
namespace Go.Abs
open Go

/-- What an operation yields that neither reads nor writes the store. -/
def evP (T : TT) (ex : Bool) (fl : FL) (op : Op) : Option (AVal × Prop) :=
  match op with
  | .move x => match opO fl x with | some v => some (v, True) | none => none
  | .assign x => match opO fl x with | some v => some (v, True) | none => none
  | .pick c a b => match opO fl c with
    | some (.c (.sc (.bool true))) => match opO fl a with | some v => some (v, True) | none => none
    | some (.c (.sc (.bool false))) => match opO fl b with | some v => some (v, True) | none => none
    | _ => none
  | .nilCheck x => match opO fl x with
    | some (.c (.ptr m off)) => some (.c (.ptr m off), True)
    | some (.c (.pim cs)) => some (.c (.pim cs), True)
    | some (.fn f cs) => some (.fn f cs, True)
    | _ => none
  | .binOp op t x y _ => match opO fl x, opO fl y with
    | some (.c (.sc (.bool a))), some (.c (.sc (.bool b))) => match undT T t with
      | some .bool => match op with
        | .eql => some (bvl (a == b), True)
        | .neq => some (bvl (a != b), True)
        | _ => none
      | _ => none
    | some x, some y => binF ex op x y
    | _, _ => none
  | .unOp op _ x => match opO fl x with
    | some x => unF ex op x
    | none => none
  | .convert s d x => match opO fl x, undT T s, undT T d with
    | some (.c (.sc (.int _ n))), some _, some (.int k) => resI ex k n True
    | _, _, _ => none
  | .fieldAddr s x f => match undT T s with
    | some (.struct fs) => match fs[f]? with
      | some fd => match celT T fd.type with
        | 0 => none
        | _ => match opO fl x with
          | some (.c (.ptr m off)) => some (.c (.ptr m (off + fd.offset)), True)
          | some (.c (.pim cs)) => some (.c (.pim (cs.drop fd.offset)), True)
          | _ => none
      | none => none
    | _ => none
  | .field s x f => match undT T s with
    | some (.struct fs) => match fs[f]? with
      | some fd => match opO fl x with
        | some (.agg cs) => match agT T fd.type with
          | some true => match celT T fd.type with
            | 0 => none
            | n => some (.agg ((cs.drop fd.offset).take n), True)
          | some false => match cs[fd.offset]? with
            | some y => some (.c y, True)
            | none => none
          | none => none
        | _ => none
      | none => none
    | _ => none
  | .indexAddr t x i => match undT T t with
    | some (.slice e) => match celT T e with
      | 0 => none
      | 1 => match opO fl x, opO fl i with
        | some (.c (.ints k L)), some (.c (.sc (.int _ j))) => some (.c (.pim [.sc (.int k (L.getD j.toNat 0))]), 0 ≤ j ∧ j < L.length)
        | some (.c (.intc k L n)), some (.c (.sc (.int _ j))) => some (.c (.pim [.sc (.int k (L.getD j.toNat 0))]), 0 ≤ j ∧ j < n)
        | some (.c (.win m off len _)), some (.c (.sc (.int _ j))) => some (.c (.ptr m (off + j.toNat)), 0 ≤ j ∧ j < len)
        | some (.c (.seq sz L)), some (.c (.sc (.int _ j))) => match Nat.beq sz 1 with
          | true => some (.c (.pim (L.getD j.toNat [])), 0 ≤ j ∧ j < L.length)
          | false => none
        | _, _ => none
      | n => match opO fl x, opO fl i with
        | some (.c (.seq sz L)), some (.c (.sc (.int _ j))) => match Nat.beq sz n with
          | true => some (.c (.pim (L.getD j.toNat [])), 0 ≤ j ∧ j < L.length)
          | false => none
        | some (.c (.win m off len _)), some (.c (.sc (.int _ j))) => some (.c (.ptr m (off + j.toNat * n)), 0 ≤ j ∧ j < len)
        | _, _ => none
    | _ => none
  | .slice t x lo hi mx => sliceF T fl t x lo hi mx
  | .extract x i => match opO fl x with
    | some (.tup xs) => match xs[i]? with
      | some (.c y) => some (.c y, True)
      | some (.agg y) => some (.agg y, True)
      | some (.fn f y) => some (.fn f y, True)
      | some (.accv m) => some (.accv m, True)
      | _ => none
    | _ => none
  | .call c => match c.callee with
    | .builtin b => match b, c.args.toList, c.argTypes.toList with
      | .len, [x], [t] => match undT T t, opO fl x with
        | some (.slice _), some v => match lenF v with | some r => some (r, True) | none => none
        | _, _ => none
      | .min, [x, y], _ => match opO fl x, opO fl y with
        | some (.c (.sc (.int k a))), some (.c (.sc (.int _ b))) => some (ivl k (if b < a then b else a), True)
        | _, _ => none
      | .max, [x, y], _ => match opO fl x, opO fl y with
        | some (.c (.sc (.int k a))), some (.c (.sc (.int _ b))) => some (ivl k (if a < b then b else a), True)
        | _, _ => none
      | _, _, _ => none
    | _ => none
  | _ => none

theorem len_spec {P : Program} {t e : TypeId} {x v : AVal} (hu : P.underlying t = some (.slice e)) (h : lenF x = some v) : lenE P t x v := by
  refine ⟨⟨e, hu⟩, ?_⟩
  unfold lenF at h
  split at h <;> first | exact (Option.some.inj h).symm | cases h

section
variable {P : Program} {T : TT} {mu : FuncId → Bool} {N : Nat} {ops : Array Oper} {fl : FL} {S : Store} {K : St → Prop}

theorem evP_sound (hT : TOk P T) {ex : Bool} {op : Op} {v : AVal} {C : Prop} (h : evP T ex fl op = some (v, C)) (hc : C) : PE P (look (lk' fl)) op v := by
  unfold evP at h
  split at h
  · split at h
    · rename_i hx
      simp only [Option.some.injEq, Prod.mk.injEq] at h
      simp only [PE, opO_look hx, h.1]
    · cases h
  · split at h
    · rename_i hx
      simp only [Option.some.injEq, Prod.mk.injEq] at h
      simp only [PE, opO_look hx, h.1]
    · cases h
  · split at h
    · rename_i hc
      split at h
      · rename_i hx
        simp only [Option.some.injEq, Prod.mk.injEq] at h
        simp only [PE, opO_look hc, if_true, opO_look hx, h.1]
      · cases h
    · rename_i hc
      split at h
      · rename_i hx
        simp only [Option.some.injEq, Prod.mk.injEq] at h
        simp [PE, opO_look hc, opO_look hx, h.1]
      · cases h
    · cases h
  · split at h
    all_goals first
      | (rename_i hx
         simp only [Option.some.injEq, Prod.mk.injEq] at h
         obtain ⟨rfl, -⟩ := h
         simp only [PE, opO_look hx])
      | cases h
  · split at h
    · rename_i hx hy
      simp only [PE, opO_look hx, opO_look hy]
      split at h
      · rename_i hu
        split at h
        · simp only [Option.some.injEq, Prod.mk.injEq] at h
          exact ⟨hT.und hu, h.1.symm⟩
        · simp only [Option.some.injEq, Prod.mk.injEq] at h
          exact ⟨hT.und hu, h.1.symm⟩
        · cases h
      · cases h
    · rename_i _ hx hy
      simp only [PE, opO_look hx, opO_look hy]
      exact binF_spec h hc
    · cases h
  · split at h
    · rename_i hx
      simp only [PE, opO_look hx]
      exact unF_spec h hc
    · cases h
  · split at h
    · rename_i hx hs hd
      simp only [PE, opO_look hx, convE]
      exact ⟨by rw [hT.und hs]; simp, _, hT.und hd, (resI_spec h hc).2⟩
    · cases h
  · split at h
    · rename_i fs hu
      split at h
      · rename_i fd hf
        split at h
        · cases h
        · rename_i n hn
          split at h
          all_goals first
            | (rename_i hx
               simp only [Option.some.injEq, Prod.mk.injEq] at h
               exact ⟨fs, fd, hT.und hu, hf, by rw [hT.cel (t := fd.type) rfl hn]; exact hn, by simp only [opO_look hx]; exact h.1.symm⟩)
            | (rename_i hx
               simp only [Option.some.injEq, Prod.mk.injEq] at h
               exact ⟨fs, fd, hT.und hu, hf, by rw [hT.cel (t := fd.type) rfl hn]; exact hn, by simp only [opO_look hx]; exact h.1.symm⟩)
            | cases h
      · cases h
    · cases h
  · split at h
    · rename_i fs hu
      split at h
      · rename_i fd hf
        split at h
        · rename_i cs hx
          refine ⟨fs, fd, hT.und hu, hf, ?_⟩
          simp only [opO_look hx]
          split at h
          · rename_i ha
            split at h
            · cases h
            · rename_i hn
              simp only [Option.some.injEq, Prod.mk.injEq] at h
              have hn' := hT.cel (t := fd.type) rfl hn
              exact .inl ⟨hT.ag ha, by rw [hn']; exact hn, by rw [hn']; exact h.1.symm⟩
          · rename_i ha
            split at h
            · rename_i y hy
              simp only [Option.some.injEq, Prod.mk.injEq] at h
              exact .inr ⟨hT.ag ha, y, hy, h.1.symm⟩
            · cases h
          · cases h
        · cases h
      · cases h
    · cases h
  · split at h
    · rename_i e hu
      split at h
      · cases h
      · rename_i hce
        have hce := hT.cel hce (by decide)
        split at h
        · rename_i hx hy
          simp only [Option.some.injEq, Prod.mk.injEq] at h
          obtain ⟨rfl, rfl⟩ := h
          exact ⟨e, hT.und hu, by omega, by simp only [opO_look hx, opO_look hy]; exact ⟨hce, hc.1, hc.2, trivial⟩⟩
        · rename_i hx hy
          simp only [Option.some.injEq, Prod.mk.injEq] at h
          obtain ⟨rfl, rfl⟩ := h
          exact ⟨e, hT.und hu, by omega, by simp only [opO_look hx, opO_look hy]; exact ⟨hce, hc.1, hc.2, trivial⟩⟩
        · rename_i hx hy
          simp only [Option.some.injEq, Prod.mk.injEq] at h
          obtain ⟨rfl, rfl⟩ := h
          exact ⟨e, hT.und hu, by omega, by simp only [opO_look hx, opO_look hy]; exact ⟨hc.1, hc.2, by rw [hce, Nat.mul_one]⟩⟩
        · rename_i hx hy
          split at h
          · rename_i hq
            simp only [Option.some.injEq, Prod.mk.injEq] at h
            obtain ⟨rfl, rfl⟩ := h
            have := Nat.eq_of_beq_eq_true hq
            exact ⟨e, hT.und hu, by omega, by simp only [opO_look hx, opO_look hy]; exact ⟨by omega, hc.1, hc.2, trivial⟩⟩
          · cases h
        · cases h
      · rename_i n hn0 hn1
        have hn2 := hT.cel (t := e) rfl hn0
        split at h
        · rename_i hx hy
          split at h
          · rename_i hq
            simp only [Option.some.injEq, Prod.mk.injEq] at h
            obtain ⟨rfl, rfl⟩ := h
            have := Nat.eq_of_beq_eq_true hq
            exact ⟨e, hT.und hu, by rw [hn2]; exact hn0, by simp only [opO_look hx, opO_look hy]; exact ⟨by omega, hc.1, hc.2, trivial⟩⟩
          · cases h
        · rename_i hx hy
          simp only [Option.some.injEq, Prod.mk.injEq] at h
          obtain ⟨rfl, rfl⟩ := h
          exact ⟨e, hT.und hu, by rw [hn2]; exact hn0, by simp only [opO_look hx, opO_look hy]; exact ⟨hc.1, hc.2, by rw [hn2]⟩⟩
        · cases h
    · cases h
  · exact sliceF_spec hT h hc
  · split at h
    · rename_i hx
      simp only [PE, opO_look hx]
      split at h
      all_goals first
        | (rename_i hy
           simp only [Option.some.injEq, Prod.mk.injEq] at h
           rw [← h.1]
           exact ⟨hy, trivial⟩)
        | cases h
    · cases h
  · split at h
    · rename_i hb
      simp only [PE, hb]
      split at h
      · rename_i ha ht
        split at h
        · rename_i hu hx
          split at h
          · rename_i r hr
            simp only [Option.some.injEq, Prod.mk.injEq] at h
            obtain ⟨rfl, rfl⟩ := h
            simp only [ha, ht, builtinE, opO_look hx]
            exact len_spec (hT.und hu) hr
          · cases h
        · cases h
      · rename_i ha
        split at h
        · rename_i hx hy
          simp only [Option.some.injEq, Prod.mk.injEq] at h
          simp only [ha, builtinE, List.map_cons, List.map_nil, opO_look hx, opO_look hy, minE]
          exact h.1.symm
        · cases h
      · rename_i ha
        split at h
        · rename_i hx hy
          simp only [Option.some.injEq, Prod.mk.injEq] at h
          simp only [ha, builtinE, List.map_cons, List.map_nil, opO_look hx, opO_look hy, minE]
          exact h.1.symm
        · cases h
      · cases h
    · cases h
  · cases h

/-- One step, then K. -/
def Stp (P : Program) (mu : FuncId → Bool) (ops : Array Oper) (o : Oper) (st : St) (K : St → Prop) : Prop := ∃ st', aStep P mu ops o st st' ∧ K st'

theorem aOps_cons {o : Oper} {rest : List Oper} {Q : St → Prop} {st : St} (h : Stp P mu ops o st (aOps P mu ops rest Q)) : aOps P mu ops (o :: rest) Q st := h

theorem evP_plain (hT : TOk P T) {ex : Bool} {op : Op} {v : AVal} {C : Prop} {S' : Store} {d : Option Nat} {ty : TypeId} {pos : String} {after : Array Edge} {g : Option (Nat × Bool)} (h : evP T ex fl op = some (v, C)) (hc : C) :
    aExec P mu ⟨d, op, ty, pos, after, g⟩ ⟨lk' fl, S'⟩ ⟨putF (lk' fl) d v, S'⟩ := by
  have hp := evP_sound hT h hc
  cases op with
  | call c =>
    obtain ⟨cl, args, tys⟩ := c
    cases cl with
    | builtin b =>
      have : ¬ kindC mu ⟨.builtin b, args, tys⟩ = .app := by
        cases b <;> simp [kindC] <;> simp [evP] at h
      simp only [aExec, if_neg this]
      exact ⟨v, S', ⟨hp, rfl⟩, rfl⟩
    | value x => simp [evP] at h
    | invoke r m => simp [evP] at h
  | load _ _ => simp [evP] at h
  | store _ _ _ => simp [evP] at h
  | alloc _ => simp [evP] at h
  | box _ _ => simp [evP] at h
  | buildSlice _ _ _ => simp [evP] at h
  | makeSlice _ _ _ => simp [evP] at h
  | _ => exact ⟨v, S', ⟨hp, rfl⟩, rfl⟩

theorem stp_pure (hT : TOk P T) (ex : Bool) {op : Op} {v : AVal} {C : Prop} {S' : Store} {d : Nat} {ty : TypeId} {pos : String} {after : Array Edge} (h : evP T ex fl op = some (v, C)) (hc : C) (k : K ⟨lk' ((d, v) :: fl), S'⟩) :
    Stp P mu ops ⟨some d, op, ty, pos, after, none⟩ ⟨lk' fl, S'⟩ K :=
  ⟨_, evP_plain hT h hc, by rw [putF_lk]; exact k⟩

theorem stp_sind (hT : TOk P T) {x i : Operand} {t : Nat} {s : ByteArray} {k : IntKind} {j : Int} {b : UInt8} {S' : Store} {d : Nat} {ty : TypeId} {pos : String} {after : Array Edge} (hu : undT T t = some .string)
    (hx : opO fl x = some (.c (.sc (.string s)))) (hi : opO fl i = some (ivl k j)) (h0 : 0 ≤ j) (hb : s[j.toNat]? = some b) (kk : K ⟨lk' ((d, ivl .u8 b.toNat) :: fl), S'⟩) :
    Stp P mu ops ⟨some d, .index t x i, ty, pos, after, none⟩ ⟨lk' fl, S'⟩ K :=
  ⟨⟨putF (lk' fl) (some d) (ivl .u8 b.toNat), S'⟩, ⟨_, S', ⟨by simp only [PE]; exact ⟨hT.und hu, by rw [opO_look hx, opO_look hi]; exact ⟨h0, b, hb, rfl⟩⟩, rfl⟩, rfl⟩, by rw [putF_lk]; exact kk⟩

theorem stp_cmp {op : BinOp} {t0 T' : TypeId} {x y : Operand} {k k' : IntKind} {a b : Int} {p : Prop} {S' : Store} {d : Nat} {ty : TypeId} {pos : String} {after : Array Edge}
    (hx : opO fl x = some (ivl k a)) (hy : opO fl y = some (ivl k' b)) (hk : kEq k k' = true) (hp : cmpP op a b = some p)
    (h1 : p → K ⟨lk' ((d, bvl true) :: fl), S'⟩) (h2 : ¬ p → K ⟨lk' ((d, bvl false) :: fl), S'⟩) : Stp P mu ops ⟨some d, .binOp op t0 x y T', ty, pos, after, none⟩ ⟨lk' fl, S'⟩ K := by
  have key : ∀ t : Bool, (t = true ↔ p) → K ⟨lk' ((d, bvl t) :: fl), S'⟩ := fun t ht => by
    cases t with
    | true => exact h1 (ht.1 rfl)
    | false => exact h2 (fun q => by have := ht.2 q; cases this)
  have ek := kEq_eq hk
  have mk : ∀ t : Bool, isShift op = false → intE op k a b (bvl t) → (t = true ↔ p) → Stp P mu ops ⟨some d, .binOp op t0 x y T', ty, pos, after, none⟩ ⟨lk' fl, S'⟩ K := fun t hs ht hq =>
    ⟨⟨putF (lk' fl) (some d) (bvl t), S'⟩, ⟨bvl t, S', ⟨by simp only [PE, opO_look hx, opO_look hy, binE, hs]; exact ⟨ek, ht⟩, rfl⟩, rfl⟩, by rw [putF_lk]; exact key t hq⟩
  cases op <;> simp only [cmpP] at hp <;> (first | cases hp; done | (obtain rfl := Option.some.inj hp))
  case eql => exact mk (a == b) rfl rfl (by simp)
  case neq => exact mk (a != b) rfl rfl (by simp)
  case lss => exact mk (decide (a < b)) rfl rfl (by simp)
  case leq => exact mk (decide (a ≤ b)) rfl rfl (by simp)
  case gtr => exact mk (decide (a > b)) rfl rfl (by simp)
  case geq => exact mk (decide (a ≥ b)) rfl rfl (by simp)

/-! guards -/
variable {dst : Option Nat} {op : Op} {ty : TypeId} {pos : String} {after : Array Edge}
theorem stp_gT {j t : Nat} {want : Bool} {S' : Store} (hg : (ops[j]?).bind (·.dst) = some t) (hb : lkO fl t = some (bvl want)) (k : Stp P mu ops ⟨dst, op, ty, pos, after, none⟩ ⟨lk' fl, S'⟩ K) :
    Stp P mu ops ⟨dst, op, ty, pos, after, some (j, want)⟩ ⟨lk' fl, S'⟩ K := by
  obtain ⟨st', h1, h2⟩ := k
  have hy : yA ops (lk' fl) j = some (some want) := by simp only [yA, hg, lkO_look hb]
  refine ⟨st', ?_, h2⟩
  simp only [aStep, hy]
  exact ⟨fun _ => h1, fun q => absurd rfl q⟩
theorem stp_gF {j t d : Nat} {b want : Bool} {S' : Store} (hg : (ops[j]?).bind (·.dst) = some t) (hb : lkO fl t = some (bvl b)) (hne : b = !want) (k : K ⟨lk' ((d, .c (.sc undef)) :: fl), S'⟩) :
    Stp P mu ops ⟨some d, op, ty, pos, after, some (j, want)⟩ ⟨lk' fl, S'⟩ K := by
  have hy : yA ops (lk' fl) j = some (some b) := by simp only [yA, hg, lkO_look hb]
  refine ⟨_, ?_, by rw [← putF_lk] at k; exact k⟩
  simp only [aStep, hy]
  exact ⟨fun q => absurd hne (by rw [q]; simp), fun _ => trivial⟩
theorem stp_gU {j t d : Nat} {vs : Array Value} {want : Bool} {S' : Store} (hg : (ops[j]?).bind (·.dst) = some t) (hb : lkO fl t = some (.c (.sc (.tuple vs)))) (k : K ⟨lk' ((d, .c (.sc undef)) :: fl), S'⟩) :
    Stp P mu ops ⟨some d, op, ty, pos, after, some (j, want)⟩ ⟨lk' fl, S'⟩ K := by
  have hy : yA ops (lk' fl) j = some none := by simp only [yA, hg, lkO_look hb]
  refine ⟨_, ?_, by rw [← putF_lk] at k; exact k⟩
  simp only [aStep, hy]
end
end Go.Abs

/-
  Steps that read and write the store, calls, appends.
-/
namespace Go.Abs
open Go

def headL : List Leaf → Option Cell
  | .sc v :: _ => some (.sc v)
  | .ints k L :: _ => some (.ints k L)
  | [] => none
theorem headL_spec {cs : List Leaf} {y : Cell} (h : headL cs = some y) : ∃ x, cs[0]? = some x ∧ y = x.cell := by
  match cs, h with
  | .sc v :: _, h => exact ⟨_, rfl, (Option.some.inj h).symm⟩
  | .ints k L :: _, h => exact ⟨_, rfl, (Option.some.inj h).symm⟩

/-- A cell of an object. -/
def objO : AObj → Nat → Option (Cell × Prop)
  | .cells _ cs, off => match cs[off]? with
    | some y => some (y, True)
    | none => none
  | .ints _ k L, off => some (.sc (.int k (L.getD off 0)), off < L.length)
  | .acc .., _ => none

def solidF : Cell → Bool
  | .sc v => v.oneCell'
  | .junk => false
  | _ => true
theorem solidF_spec {x : Cell} (h : solidF x = true) : x.solid := by cases x <;> first | trivial | exact h | cases h

def setL : List Cell → Nat → Cell → Option (List Cell)
  | [], _, _ => none
  | _ :: cs, 0, y => some (y :: cs)
  | c :: cs, n + 1, y => match setL cs n y with
    | some r => some (c :: r)
    | none => none
theorem setL_spec : ∀ {cs : List Cell} {n : Nat} {y : Cell} {out : List Cell}, setL cs n y = some out → n + 1 ≤ cs.length ∧ out = spl cs n [y]
  | c :: cs, 0, y, out, h => by simp only [setL, Option.some.injEq] at h; subst h; simp [spl]
  | c :: cs, n + 1, y, out, h => by
    simp only [setL] at h
    split at h
    · rename_i r hr
      obtain ⟨h1, h2⟩ := setL_spec hr
      simp only [Option.some.injEq] at h
      subst h
      refine ⟨by simp; omega, ?_⟩
      subst h2
      simp [spl, List.take_succ_cons]
    · cases h

/-- An object after a store. -/
def putO (T : TT) (t : TypeId) (o : AObj) (off : Nat) (x : AVal) : Option (AObj × Prop) :=
  match o with
  | .ints ty k L => match x, celT T t with
    | .c (.sc (.int k' y)), 1 => match kEq k k' with
      | true => some (.ints ty k (L.set off y), off < L.length)
      | false => none
    | _, _ => none
  | .cells ty cs => match x, celT T t with
    | .c y, 1 => match solidF y, setL cs off y with
      | true, some cs' => some (.cells ty cs', True)
      | _, _ => none
    | .agg ys, n + 1 => some (.cells ty (spl cs off ys), ys.length = n + 1 ∧ off + ys.length ≤ cs.length)
    | _, _ => none
  | .acc .. => none

def normC : List Cell → Option (List Cell)
  | [] => some []
  | .sc v :: xs => match normC xs, v.oneCell' with
    | some r, true => some (.sc v :: r)
    | _, _ => none
  | _ => none
theorem normC_spec : ∀ {xs ys : List Cell}, normC xs = some ys → ys = xs ∧ ∀ x ∈ xs, x.solid
  | [], ys, h => by simp only [normC, Option.some.injEq] at h; subst h; simp
  | .sc v :: xs, ys, h => by
    simp only [normC] at h
    split at h
    · rename_i r hr hv
      obtain ⟨h1, h2⟩ := normC_spec hr
      simp only [Option.some.injEq] at h
      subst h; subst h1
      refine ⟨rfl, fun x hx => ?_⟩
      rcases List.mem_cons.1 hx with rfl | hx
      · exact hv
      · exact h2 x hx
    · cases h

/-- A type's nought, cell by cell. -/
def zerF (T : TT) (e : TypeId) : Option (List Cell) :=
  match zerT T e with
  | some z => normC (z.cells.toList.map .sc)
  | none => none
theorem zerF_spec {P : Program} {T : TT} (hT : TOk P T) {e : TypeId} {z : List Cell} (h : zerF T e = some z) : zeroCells P e = some z ∧ ∀ x ∈ z, x.solid := by
  unfold zerF at h
  split at h
  · rename_i z' hz
    obtain ⟨h1, h2⟩ := normC_spec h
    subst h1
    exact ⟨by simp only [zeroCells, hT.zer hz, Option.map_some], h2⟩
  · cases h

def intsPart (fl : FL) : List (Nat × Operand) → Nat → Option (IntKind × List Int)
  | [], _ => none
  | [(i, x)], n => match Nat.beq i n, opO fl x with
    | true, some (.c (.sc (.int k a))) => some (k, [a])
    | _, _ => none
  | (i, x) :: r, n => match Nat.beq i n, opO fl x, intsPart fl r (n + 1) with
    | true, some (.c (.sc (.int k a))), some (k', L) => match kEq k k' with
      | true => some (k, a :: L)
      | false => none
    | _, _, _ => none

section
variable {P : Program} {T : TT} {mu : FuncId → Bool} {N : Nat} {ops : Array Oper} {fl : FL} {sl : SL} {S : Store} {K : St → Prop}
  {d : Nat} {ty : TypeId} {pos : String} {after : Array Edge}

theorem stp_loadp (hT : TOk P T) {t : TypeId} {x : Operand} {cs : List Leaf} {y : Cell} {S' : Store} (hx : opO fl x = some (.c (.pim cs))) (ha : agT T t = some false) (hy : headL cs = some y) (k : K ⟨lk' ((d, .c y) :: fl), S'⟩) :
    Stp P mu ops ⟨some d, .load t x, ty, pos, after, none⟩ ⟨lk' fl, S'⟩ K := by
  obtain ⟨l, h1, rfl⟩ := headL_spec hy
  exact ⟨_, ⟨.c l.cell, S', ⟨by rw [opO_look hx]; exact .inr ⟨hT.ag ha, l, h1, rfl⟩, rfl⟩, rfl⟩, by rw [putF_lk]; exact k⟩

theorem stp_loadpa (hT : TOk P T) {t : TypeId} {x : Operand} {cs : List Leaf} {n : Nat} {S' : Store} (hx : opO fl x = some (.c (.pim cs))) (ha : agT T t = some true) (hn : celT T t = n + 1) (hl : n + 1 ≤ cs.length)
    (k : K ⟨lk' ((d, .agg ((cs.take (n + 1)).map Leaf.cell)) :: fl), S'⟩) :
    Stp P mu ops ⟨some d, .load t x, ty, pos, after, none⟩ ⟨lk' fl, S'⟩ K :=
  ⟨_, ⟨_, S', ⟨by rw [opO_look hx]; exact .inl ⟨hT.ag ha, by rw [hT.cel hn (by simp)]; simp, by rw [hT.cel hn (by simp)]; exact hl, by rw [hT.cel hn (by simp)]⟩, rfl⟩, rfl⟩, by rw [putF_lk]; exact k⟩

theorem stp_load (hT : TOk P T) {t : TypeId} {x : Operand} {m : Nm} {off : Nat} {o : AObj} {y : Cell} {C : Prop} (hx : opO fl x = some (.c (.ptr m off))) (ha : agT T t = some false) (hm : lkS sl m = some o) (hy : objO o off = some (y, C)) (hc : C)
    (k : K ⟨lk' ((d, .c y) :: fl), ov sl S⟩) : Stp P mu ops ⟨some d, .load t x, ty, pos, after, none⟩ ⟨lk' fl, ov sl S⟩ K := by
  refine ⟨_, ⟨.c y, ov sl S, ⟨?_, rfl⟩, rfl⟩, by rw [putF_lk]; exact k⟩
  rw [opO_look hx]
  refine ⟨o, ov_of hm, .inr ⟨hT.ag ha, y, ?_, rfl⟩⟩
  cases o with
  | cells ty cs =>
    simp only [objO] at hy
    split at hy
    · rename_i y' hy'; simp only [Option.some.injEq, Prod.mk.injEq] at hy; obtain ⟨rfl, -⟩ := hy; exact hy'
    · cases hy
  | ints ty k L =>
    simp only [objO, Option.some.injEq, Prod.mk.injEq] at hy
    obtain ⟨rfl, rfl⟩ := hy
    simp [objCell, List.getElem?_eq_getElem hc]
  | acc ty k L => cases hy

theorem stp_loada (hT : TOk P T) {t : TypeId} {x : Operand} {m : Nm} {off n : Nat} {ty' : TypeId} {cs : List Cell} (hx : opO fl x = some (.c (.ptr m off))) (ha : agT T t = some true) (hn : celT T t = n + 1) (hm : lkS sl m = some (.cells ty' cs))
    (hl : off + (n + 1) ≤ cs.length) (k : K ⟨lk' ((d, .agg ((cs.drop off).take (n + 1))) :: fl), ov sl S⟩) : Stp P mu ops ⟨some d, .load t x, ty, pos, after, none⟩ ⟨lk' fl, ov sl S⟩ K := by
  refine ⟨_, ⟨_, ov sl S, ⟨?_, rfl⟩, rfl⟩, by rw [putF_lk]; exact k⟩
  rw [opO_look hx]
  exact ⟨_, ov_of hm, .inl ⟨hT.ag ha, by rw [hT.cel hn (by simp)]; simp, ty', cs, rfl, by rw [hT.cel hn (by simp)]; exact hl, by rw [hT.cel hn (by simp)]⟩⟩

theorem stp_store (hT : TOk P T) {t : TypeId} {x y : Operand} {m : Nm} {off : Nat} {o o' : AObj} {v : AVal} {C : Prop} (hx : opO fl x = some (.c (.ptr m off))) (hy : opO fl y = some v) (hm : lkS sl m = some o) (ho : putO T t o off v = some (o', C)) (hc : C)
    (k : K ⟨lk' fl, ov ((m, o') :: sl) S⟩) : Stp P mu ops ⟨none, .store t x y, ty, pos, after, none⟩ ⟨lk' fl, ov sl S⟩ K := by
  refine ⟨⟨lk' fl, upd (ov sl S) m o'⟩, ⟨.c (.sc undef), _, ⟨?_, rfl⟩, rfl⟩, by rw [upd_ov]; exact k⟩
  rw [opO_look hx, opO_look hy]
  unfold putO at ho
  split at ho
  · rename_i ty kk L
    split at ho
    · rename_i k' y hn
      split at ho
      · rename_i hk
        simp only [Option.some.injEq, Prod.mk.injEq] at ho
        obtain ⟨rfl, rfl⟩ := ho
        obtain rfl := kEq_eq hk
        exact .inr ⟨ty, kk, L, y, ov_of hm, hT.cel hn (by simp), rfl, hc, rfl⟩
      · cases ho
    · cases ho
  · rename_i ty cs
    split at ho
    · rename_i y hn
      split at ho
      · rename_i cs' hs hset
        have hn := hT.cel hn (by simp)
        simp only [Option.some.injEq, Prod.mk.injEq] at ho
        obtain ⟨rfl, rfl⟩ := ho
        obtain ⟨h1, rfl⟩ := setL_spec hset
        exact .inl ⟨ty, cs, ov_of hm, solidF_spec hs, by omega, by simp [AVal.cells, hn], by simpa [AVal.cells] using h1, rfl⟩
      · cases ho
    · rename_i ys n hn
      have hn := hT.cel hn (by simp)
      simp only [Option.some.injEq, Prod.mk.injEq] at ho
      obtain ⟨rfl, rfl⟩ := ho
      exact .inl ⟨ty, cs, ov_of hm, trivial, by omega, by simp [AVal.cells, hn, hc.1], hc.2, rfl⟩
    · cases ho
  · cases ho

def freeO : SL → Nat → Bool
  | [], _ => true
  | (.loc a, _) :: r, d => match Nat.beq a d with
    | true => false
    | false => freeO r d
  | _ :: r, d => freeO r d
theorem freeO_spec {S : Store} : ∀ {sl : SL} {d : Nat}, freeO sl d = true → (ov sl (pushS S)) (.loc d) = none
  | [], d, _ => rfl
  | (.loc a, o) :: r, d, h => by
    simp only [freeO] at h
    split at h
    · cases h
    · rename_i e
      have : d ≠ a := fun q => by subst q; simp [Nat.beq_refl] at e
      have ih := freeO_spec (S := S) h
      simpa [ov, lkS, this] using ih
  | (.out a, o) :: r, d, h => by have ih := freeO_spec (S := S) (sl := r) h; simpa [ov, lkS] using ih
  | (.new, o) :: r, d, h => by have ih := freeO_spec (S := S) (sl := r) h; simpa [ov, lkS] using ih
  | (.fam a i, o) :: r, d, h => by have ih := freeO_spec (S := S) (sl := r) h; simpa [ov, lkS] using ih

theorem stp_alloc (hT : TOk P T) {e : TypeId} {z : List Cell} (hz : zerF T e = some z) (hf : freeO sl d = true) (k : K ⟨lk' ((d, .c (.ptr (.loc d) 0)) :: fl), ov ((.loc d, .cells e z) :: sl) (pushS S)⟩) :
    Stp P mu ops ⟨some d, .alloc e, ty, pos, after, none⟩ ⟨lk' fl, ov sl (pushS S)⟩ K := by
  obtain ⟨h1, h2⟩ := zerF_spec hT hz
  exact ⟨_, ⟨_, _, ⟨d, .cells e z, rfl, freeO_spec hf, ⟨z, h1, h2, rfl, rfl⟩, rfl⟩, rfl⟩, by rw [putF_lk, upd_ov]; exact k⟩

theorem stp_box {e : TypeId} {x : Operand} {y : Cell} (hx : opO fl x = some (.c y)) (hs : solidF y = true) (hf : freeO sl d = true) (k : K ⟨lk' ((d, .c (.ptr (.loc d) 0)) :: fl), ov ((.loc d, .cells e [y]) :: sl) (pushS S)⟩) :
    Stp P mu ops ⟨some d, .box e x, ty, pos, after, none⟩ ⟨lk' fl, ov sl (pushS S)⟩ K :=
  ⟨_, ⟨_, _, ⟨d, .cells e [y], rfl, freeO_spec hf, ⟨by rw [opO_look hx]; exact solidF_spec hs, rfl, by rw [opO_look hx]; rfl⟩, rfl⟩, rfl⟩, by rw [putF_lk, upd_ov]; exact k⟩

theorem stp_make (hT : TOk P T) {t e : TypeId} {l c : Operand} {a b : Int} {ka kb k : IntKind} (ht : undT T t = some (.slice e)) (hc1 : celT T e = 1) (hb8 : bytT T e = some 8) (hz : zerF T e = some [.sc (.int k 0)])
    (hl : opO fl l = some (ivl ka a)) (hc : opO fl c = some (ivl kb b)) (hf : freeO sl d = true) (hb : 0 ≤ a ∧ a ≤ b ∧ b ≤ 35184372088832)
    (kk : K ⟨lk' ((d, .c (.win (.loc d) 0 a.toNat b.toNat)) :: fl), ov ((.loc d, .ints e k (List.replicate b.toNat 0)) :: sl) (pushS S)⟩) :
    Stp P mu ops ⟨some d, .makeSlice t l c, ty, pos, after, none⟩ ⟨lk' fl, ov sl (pushS S)⟩ K := by
  have ht := hT.und ht
  have hc1 := hT.cel hc1 (by simp)
  have hb8 := hT.byt hb8
  obtain ⟨h1, h2⟩ := zerF_spec hT hz
  refine ⟨_, ⟨_, _, ⟨d, .ints e k (List.replicate b.toNat 0), rfl, freeO_spec hf, ⟨e, _, ht, by omega, h1, by simp [hc1], h2, ?_⟩, rfl⟩, rfl⟩, by rw [putF_lk, upd_ov]; exact kk⟩
  rw [opO_look hl, opO_look hc]
  exact ⟨hb.1, hb.2.1, by rw [hb8]; omega, by omega, .inl ⟨rfl, .inr ⟨k, 0, rfl, rfl⟩⟩⟩

theorem stp_make1 (hT : TOk P T) {t e : TypeId} {l c : Operand} {a b : Int} {ka kb k : IntKind} (ht : undT T t = some (.slice e)) (hc1 : celT T e = 1) (hb8 : bytT T e = some 1) (hz : zerF T e = some [.sc (.int k 0)])
    (hl : opO fl l = some (ivl ka a)) (hc : opO fl c = some (ivl kb b)) (hf : freeO sl d = true) (hb : 0 ≤ a ∧ a ≤ b ∧ b ≤ 281474976710656)
    (kk : K ⟨lk' ((d, .c (.win (.loc d) 0 a.toNat b.toNat)) :: fl), ov ((.loc d, .ints e k (List.replicate b.toNat 0)) :: sl) (pushS S)⟩) :
    Stp P mu ops ⟨some d, .makeSlice t l c, ty, pos, after, none⟩ ⟨lk' fl, ov sl (pushS S)⟩ K := by
  have ht := hT.und ht
  have hc1 := hT.cel hc1 (by simp)
  have hb8 := hT.byt hb8
  obtain ⟨h1, h2⟩ := zerF_spec hT hz
  refine ⟨_, ⟨_, _, ⟨d, .ints e k (List.replicate b.toNat 0), rfl, freeO_spec hf, ⟨e, _, ht, by omega, h1, by simp [hc1], h2, ?_⟩, rfl⟩, rfl⟩, by rw [putF_lk, upd_ov]; exact kk⟩
  rw [opO_look hl, opO_look hc]
  exact ⟨hb.1, hb.2.1, by rw [hb8]; omega, by omega, .inl ⟨rfl, .inr ⟨k, 0, rfl, rfl⟩⟩⟩

/-- A new list that is to grow. -/
theorem stp_makeA (hT : TOk P T) {t e : TypeId} {l c : Operand} {a b : Int} {ka kb k : IntKind} (ht : undT T t = some (.slice e)) (hc1 : celT T e = 1) {nb : Nat} (hb8 : bytT T e = some nb) (hz : zerF T e = some [.sc (.int k 0)])
    (hl : opO fl l = some (ivl ka a)) (hc : opO fl c = some (ivl kb b)) (hf : freeO sl d = true) (hab : a = b) (hb : 0 ≤ a ∧ (nb : Int) * b ≤ 281474976710656 ∧ b ≤ 9223372036854775807)
    (kk : K ⟨lk' ((d, .accv (.loc d)) :: fl), ov ((.loc d, .acc e k (List.replicate b.toNat 0)) :: sl) (pushS S)⟩) :
    Stp P mu ops ⟨some d, .makeSlice t l c, ty, pos, after, none⟩ ⟨lk' fl, ov sl (pushS S)⟩ K := by
  have ht := hT.und ht
  have hc1 := hT.cel hc1 (by simp)
  have hb8 := hT.byt hb8
  obtain ⟨h1, h2⟩ := zerF_spec hT hz
  refine ⟨_, ⟨_, _, ⟨d, .acc e k (List.replicate b.toNat 0), rfl, freeO_spec hf, ⟨e, _, ht, by omega, h1, by simp [hc1], h2, ?_⟩, rfl⟩, rfl⟩, by rw [putF_lk, upd_ov]; exact kk⟩
  rw [opO_look hl, opO_look hc]
  exact ⟨hb.1, by omega, by rw [hb8]; omega, by omega, .inr ⟨hab, k, 0, rfl, rfl, rfl⟩⟩

theorem int_fill {k : IntKind} : ∀ (ps : List (Nat × Operand)) (n : Nat) (pre : List Int) (L : List Int) (tl : List Cell), intsPart fl ps n = some (k, L) → pre.length = n → ps.length = tl.length →
    fillE (fun i => some (i * 1, 1)) (look (lk' fl)) (intsOf k pre ++ tl) ps (intsOf k (pre ++ L))
  | [], n, pre, L, tl, h, _, _ => by cases h
  | [(i, x)], n, pre, L, tl, h, hp, ht => by
    simp only [intsPart] at h
    split at h
    · rename_i k' a hi hx
      simp only [Option.some.injEq, Prod.mk.injEq] at h
      obtain ⟨rfl, rfl⟩ := h
      have := Nat.eq_of_beq_eq_true hi
      subst this
      match tl, ht with
      | [y], _ =>
        refine ⟨_, _, rfl, by rw [opO_look hx]; rfl, by rw [opO_look hx]; rfl, by simp [intsOf, hp], ?_⟩
        rw [opO_look hx]
        simp [fillE, AVal.cells, spl, intsOf, hp]
    · cases h
  | (i, x) :: q :: r, n, pre, L, tl, h, hp, ht => by
    simp only [intsPart] at h
    split at h
    · rename_i k1 a k2 L2 hi hx hr
      split at h
      · rename_i hk
        simp only [Option.some.injEq, Prod.mk.injEq] at h
        obtain ⟨rfl, rfl⟩ := h
        obtain rfl := kEq_eq hk
        have := Nat.eq_of_beq_eq_true hi
        subst this
        match tl, ht with
        | y :: tl, ht =>
          refine ⟨_, _, rfl, by rw [opO_look hx]; rfl, by rw [opO_look hx]; rfl, by simp [intsOf, hp], ?_⟩
          rw [opO_look hx]
          have ih := int_fill (k := k1) (q :: r) (i + 1) (pre ++ [a]) L2 tl hr (by simp [hp]) (by simpa using ht)
          have e : spl (intsOf k1 pre ++ y :: tl) (i * 1) (AVal.cells (ivl k1 a)) = intsOf k1 (pre ++ [a]) ++ tl := by
            have hd : List.drop (i + 1) (List.map (fun x => Cell.sc (Value.int k1 x)) pre ++ y :: tl) = tl := by
              rw [List.drop_append]; simp [hp]
            simp [spl, AVal.cells, intsOf, hp, hd]
          rw [e]
          simpa using ih
      · cases h
    · cases h

/-- The same, to be appended to. -/
theorem stp_intsA (hT : TOk P T) {t e : TypeId} {n : Nat} {ps : Array (Nat × Operand)} {k : IntKind} {L : List Int} (ht : undT T t = some (.slice e)) (hc1 : celT T e = 1) (hz : zerF T e = some [.sc (.int k 0)]) (hp : intsPart fl ps.toList 0 = some (k, L) ∨ (ps.toList = [] ∧ L = []))
    (hn : Nat.beq ps.toList.length n = true) (hsmall : Nat.ble n 1000 = true) (hf : freeO sl d = true)
    (kk : K ⟨lk' ((d, .accv (.loc d)) :: fl), ov ((.loc d, .acc e k L) :: sl) (pushS S)⟩) :
    Stp P mu ops ⟨some d, .buildSlice t n ps, ty, pos, after, none⟩ ⟨lk' fl, ov sl (pushS S)⟩ K := by
  have ht := hT.und ht
  have hc1 := hT.cel hc1 (by simp)
  obtain ⟨h1, h2⟩ := zerF_spec hT hz
  have hn := Nat.eq_of_beq_eq_true hn
  have hs := Nat.le_of_ble_eq_true hsmall
  refine ⟨_, ⟨_, _, ⟨d, .acc e k L, rfl, freeO_spec hf, ⟨e, _, intsOf k L, ht, by omega, by rw [hc1]; omega, h1, by simp [hc1], h2, ?_, .inr ⟨hc1, k, L, rfl, rfl, rfl⟩⟩, rfl⟩, rfl⟩, by rw [putF_lk, upd_ov]; exact kk⟩
  rcases hp with hp | ⟨hp, rfl⟩
  · have := int_fill (k := k) ps.toList 0 [] L (rep n [.sc (.int k 0)]) hp rfl (by rw [rep_length]; simp [hn])
    simpa [hc1, intsOf] using this
  · rw [hp] at hn ⊢
    have : n = 0 := hn.symm
    subst this
    rfl

/-- A list of whole numbers written out. -/
theorem stp_ints (hT : TOk P T) {t e : TypeId} {n : Nat} {ps : Array (Nat × Operand)} {k : IntKind} {L : List Int} (ht : undT T t = some (.slice e)) (hc1 : celT T e = 1) (hz : zerF T e = some [.sc (.int k 0)]) (hp : intsPart fl ps.toList 0 = some (k, L))
    (hn : Nat.beq ps.toList.length n = true) (hsmall : Nat.ble n 1000 = true) (hf : freeO sl d = true)
    (kk : K ⟨lk' ((d, .c (.win (.loc d) 0 n n)) :: fl), ov ((.loc d, .ints e k L) :: sl) (pushS S)⟩) :
    Stp P mu ops ⟨some d, .buildSlice t n ps, ty, pos, after, none⟩ ⟨lk' fl, ov sl (pushS S)⟩ K := by
  have ht := hT.und ht
  have hc1 := hT.cel hc1 (by simp)
  obtain ⟨h1, h2⟩ := zerF_spec hT hz
  have hn := Nat.eq_of_beq_eq_true hn
  have hs := Nat.le_of_ble_eq_true hsmall
  refine ⟨_, ⟨_, _, ⟨d, .ints e k L, rfl, freeO_spec hf, ⟨e, _, intsOf k L, ht, by omega, by rw [hc1]; omega, h1, by simp [hc1], h2, ?_, .inl ⟨rfl, .inr ⟨k, L, rfl, rfl⟩⟩⟩, rfl⟩, rfl⟩, by rw [putF_lk, upd_ov]; exact kk⟩
  have := int_fill (k := k) ps.toList 0 [] L (rep n [.sc (.int k 0)]) hp rfl (by rw [rep_length]; simp [hn])
  simpa [hc1, intsOf] using this
end
end Go.Abs

/-
  Calls, appends; states that say less, in the midst of a region; loops.
-/
namespace Go.Abs
open Go

def nm0 (x : AVal) : Prop := ∀ m, ¬ x.at m

/-- f of args is res; nothing is written. -/
structure AFun (P : Program) (f : FuncId) (args : List AVal) (res : AVal) : Prop where
  calls : ∀ Φ, ACalls P f args Φ (fun _ => res) (fun _ => [])
  res0 : nm0 res
  args0 : ∀ x ∈ args, nm0 x

/-- What a call may touch. -/
structure ASide (mu : FuncId → Bool) (f : FuncId) (d : Option Nat) (args : List AVal) (res : AVal) (ups : List (Nm × AObj)) : Prop where
  a1 : ∀ p ∈ ups, p.1 = nmOf d ∨ (mu f = true ∧ ∃ x ∈ args, x.at p.1)
  a2 : ups = [] ∨ (mu f = true) ∨ ∃ k o, d = some k ∧ ups = [(nmOf d, o)]
  a3 : ∀ m, res.at m → (m = nmOf d ∧ ∃ o, (m, o) ∈ ups) ∨ ∃ x ∈ args, x.at m
  a4 : ∀ p ∈ ups, ∀ ty cs, p.2 = .cells ty cs → ∀ x ∈ cs, ∀ m, x.at m → (m = nmOf d ∧ ∃ o, (m, o) ∈ ups) ∨ ∃ x ∈ args, x.at m

def addL : SL → SL → SL
  | sl, [] => sl
  | sl, p :: ups => addL (p :: sl) ups
theorem updL_ov {S : Store} : ∀ (ups : SL) (sl : SL), updL (ov sl S) ups = ov (addL sl ups) S
  | [], sl => rfl
  | p :: ups, sl => by simp only [updL, addL]; rw [upd_ov]; exact updL_ov ups _

section
variable {P : Program} {T : TT} {mu : FuncId → Bool} {N : Nat} {ops : Array Oper} {fl : FL} {sl : SL} {S : Store} {K : St → Prop}
  {d : Nat} {ty : TypeId} {pos : String} {after : Array Edge}

theorem kindC_val {f : Operand} {args : Array Operand} {tys : Array TypeId} : ¬ kindC mu ⟨.value f, args, tys⟩ = .app := by
  cases f <;> simp [kindC]
  split <;> simp

theorem stp_call {g : Operand} {f : FuncId} {caps : List Cell} {as : Array Operand} {tys : Array TypeId} {xs args : List AVal} {Φ : Store} {res : Nm → AVal} {ups : Nm → List (Nm × AObj)}
    (hc : ACalls P f args Φ res ups) (hg : opO fl g = some (.fn f caps)) (hx : opsO fl as.toList = some xs) (hle : ALes (xs ++ caps.map .c) args) (hf : freeO sl d = true) (hΦ : ∀ m, (∃ x ∈ args, x.at m) → ov sl (pushS S) m = Φ m)
    (hs : ASide mu f (some d) args (res (.loc d)) (ups (.loc d))) (k : K ⟨lk' ((d, res (.loc d)) :: fl), ov (addL sl (ups (.loc d))) (pushS S)⟩) :
    Stp P mu ops ⟨some d, .call ⟨.value g, as, tys⟩, ty, pos, after, none⟩ ⟨lk' fl, ov sl (pushS S)⟩ K := by
  refine ⟨⟨putF (lk' fl) (some d) (res (.loc d)), updL (ov sl (pushS S)) (ups (.loc d))⟩, ?_, by rw [putF_lk, updL_ov]; exact k⟩
  simp only [aStep, aExec, if_neg kindC_val]
  exact ⟨_, _, ⟨f, caps, args, Φ, res, ups, opO_look hg, by rw [opsO_look hx]; exact hle, hc, hΦ, freeO_spec hf, rfl, rfl, hs.a1, hs.a2, hs.a3, hs.a4⟩, rfl⟩

theorem stp_callN {g : Operand} {f : FuncId} {caps : List Cell} {as : Array Operand} {tys : Array TypeId} {xs args : List AVal} {Φ : Store} {res : Nm → AVal} {ups : Nm → List (Nm × AObj)}
    (hc : ACalls P f args Φ res ups) (hg : opO fl g = some (.fn f caps)) (hx : opsO fl as.toList = some xs) (hle : ALes (xs ++ caps.map .c) args) (hf : lkS sl .new = none) (hΦ : ∀ m, (∃ x ∈ args, x.at m) → ov sl (pushS S) m = Φ m)
    (hs : ASide mu f none args (res .new) (ups .new)) (k : K ⟨lk' fl, ov (addL sl (ups .new)) (pushS S)⟩) :
    Stp P mu ops ⟨none, .call ⟨.value g, as, tys⟩, ty, pos, after, none⟩ ⟨lk' fl, ov sl (pushS S)⟩ K := by
  refine ⟨⟨lk' fl, updL (ov sl (pushS S)) (ups .new)⟩, ?_, by rw [updL_ov]; exact k⟩
  simp only [aStep, aExec, if_neg kindC_val]
  exact ⟨_, _, ⟨f, caps, args, Φ, res, ups, opO_look hg, by rw [opsO_look hx]; exact hle, hc, hΦ, by simp [nmOf, ov, hf, pushS], rfl, rfl, hs.a1, hs.a2, hs.a3, hs.a4⟩, rfl⟩

theorem stp_callF {f : FuncId} {as : Array Operand} {tys : Array TypeId} {xs args : List AVal} {res : AVal} (hc : AFun P f args res) (hx : opsO fl as.toList = some xs) (hle : ALes xs args) (hf : freeO sl d = true)
    (k : K ⟨lk' ((d, res) :: fl), ov sl (pushS S)⟩) : Stp P mu ops ⟨some d, .call ⟨.value (.func f), as, tys⟩, ty, pos, after, none⟩ ⟨lk' fl, ov sl (pushS S)⟩ K :=
  stp_call (hc.calls (ov sl (pushS S))) rfl hx (by simpa using hle) hf (fun _ _ => rfl) ⟨by simp, .inl rfl, fun m hm => absurd hm (hc.res0 m), by simp⟩ k

def killL (n : Nm) : FL → FL
  | [] => []
  | (t, .accv m) :: r => (t, killF n (.accv m)) :: killL n r
  | (t, v) :: r => (t, v) :: killL n r
theorem killL_lk (n : Nm) : ∀ fl : FL, (fun t => killF n (lk' fl t)) = lk' (killL n fl)
  | [] => by funext t; rfl
  | (s, v) :: r => by
    funext t
    have ih := congrFun (killL_lk n r) t
    have key : killF n (lk' ((s, v) :: r) t) = lk' ((s, killF n v) :: killL n r) t := by
      simp only [lk', lkO] at ih ⊢
      cases Nat.beq s t with
      | true => rfl
      | false => exact ih
    cases v <;> exact key

theorem srcE_win {e : TypeId} {m : Nm} {k : IntKind} {L : List Int} {off len cm : Nat} (hm : lkS sl m = some (.ints e k L)) (h : off + len ≤ L.length) : srcE (ov sl S) (.c (.win m off len cm)) k ((L.drop off).take len) :=
  ⟨e, .inl ⟨L, ov_of hm, h, rfl⟩⟩
theorem srcE_ints {k : IntKind} {L : List Int} : srcE S (.c (.ints k L)) k L := ⟨rfl, rfl⟩
theorem srcE_nil {k : IntKind} : srcE S nils k [] := rfl

theorem stp_app (hT : TOk P T) {s x : Operand} {tys : Array TypeId} {t e : TypeId} {as : Array Operand} {m : Nm} {k : IntKind} {L Y : List Int} {xv : AVal} (ha : as.toList = [s, x]) (ht : tys.toList = [t, t]) (hu : undT T t = some (.slice e)) (hc1 : celT T e = 1)
    (hz : zerT T e = some (.int k 0)) (hs : opO fl s = some (.accv m)) (hx : opO fl x = some xv) (hm : lkS sl m = some (.acc e k L)) (ho : m.isOut = false) (hY : srcE (ov sl S) xv k Y)
    {nb : Nat} (hb : bytT T e = some nb) (hl : (L.length + Y.length) * nb ≤ 140737488355328 ∧ L.length + Y.length ≤ maxLen) (kk : K ⟨lk' ((d, .accv m) :: killL m fl), ov ((m, .acc e k (L ++ Y)) :: sl) S⟩) :
    Stp P mu ops ⟨some d, .call ⟨.builtin .append, as, tys⟩, ty, pos, after, none⟩ ⟨lk' fl, ov sl S⟩ K := by
  refine ⟨⟨putF (fun t => killF m (lk' fl t)) (some d) (.accv m), upd (ov sl S) m (.acc e k (L ++ Y))⟩, ?_, by rw [killL_lk, putF_lk, upd_ov]; exact kk⟩
  refine ⟨d, .accv m, m, _, rfl, ?_, rfl⟩
  simp only [appE, ha, ht]
  have hb := hT.byt hb
  refine ⟨trivial, e, k, Y, hT.und hu, hT.cel hc1 (by simp), hT.zer hz, by rw [opO_look hx]; exact hY, ?_⟩
  rw [opO_look hs]
  exact ⟨trivial, rfl, L, ov_of hm, by rw [hb]; exact hl.1, hl.2, rfl, ho⟩

theorem stp_app0 (hT : TOk P T) {s x : Operand} {tys : Array TypeId} {t e : TypeId} {as : Array Operand} {k : IntKind} {Y : List Int} {xv : AVal} (ha : as.toList = [s, x]) (ht : tys.toList = [t, t]) (hu : undT T t = some (.slice e)) (hc1 : celT T e = 1)
    (hz : zerT T e = some (.int k 0)) (hs : opO fl s = some nils) (hx : opO fl x = some xv) (hf : freeO sl d = true) (hY : srcE (ov sl (pushS S)) xv k Y)
    {nb : Nat} (hb : bytT T e = some nb) (hl : Y.length * nb ≤ 140737488355328 ∧ Y.length ≤ maxLen) (kk : K ⟨lk' ((d, .accv (.loc d)) :: killL (.loc d) fl), ov ((.loc d, .acc e k Y) :: sl) (pushS S)⟩) :
    Stp P mu ops ⟨some d, .call ⟨.builtin .append, as, tys⟩, ty, pos, after, none⟩ ⟨lk' fl, ov sl (pushS S)⟩ K := by
  refine ⟨⟨putF (fun t => killF (.loc d) (lk' fl t)) (some d) (.accv (.loc d)), upd (ov sl (pushS S)) (.loc d) (.acc e k Y)⟩, ?_, by rw [killL_lk, putF_lk, upd_ov]; exact kk⟩
  refine ⟨d, .accv (.loc d), .loc d, _, rfl, ?_, rfl⟩
  simp only [appE, ha, ht]
  have hb := hT.byt hb
  refine ⟨trivial, e, k, Y, hT.und hu, hT.cel hc1 (by simp), hT.zer hz, by rw [opO_look hx]; exact hY, ?_⟩
  rw [opO_look hs]
  exact ⟨trivial, trivial, freeO_spec hf, by rw [hb]; exact hl.1, hl.2, rfl⟩

theorem stp_appR (hT : TOk P T) {s x : Operand} {tys : Array TypeId} {t e : TypeId} {as : Array Operand} {m : Nm} {k : IntKind} {L Y : List Int} {len cm : Nat} {xv : AVal} (ha : as.toList = [s, x]) (ht : tys.toList = [t, t]) (hu : undT T t = some (.slice e)) (hc1 : celT T e = 1)
    (hz : zerT T e = some (.int k 0)) (hs : opO fl s = some (.c (.win m 0 len cm))) (hx : opO fl x = some xv) (hm : lkS sl m = some (.ints e k L)) (hY : srcE (ov sl S) xv k Y)
    (hl : len + Y.length ≤ cm ∧ len + Y.length ≤ L.length) (kk : K ⟨lk' ((d, .c (.win m 0 (len + Y.length) cm)) :: killL m fl), ov ((m, .ints e k (L.take len ++ Y ++ L.drop (len + Y.length))) :: sl) S⟩) :
    Stp P mu ops ⟨some d, .call ⟨.builtin .append, as, tys⟩, ty, pos, after, none⟩ ⟨lk' fl, ov sl S⟩ K := by
  refine ⟨⟨putF (fun t => killF m (lk' fl t)) (some d) (.c (.win m 0 (len + Y.length) cm)), upd (ov sl S) m (.ints e k (L.take len ++ Y ++ L.drop (len + Y.length)))⟩, ?_, by rw [killL_lk, putF_lk, upd_ov]; exact kk⟩
  refine ⟨d, .c (.win m 0 (len + Y.length) cm), m, _, rfl, ?_, rfl⟩
  simp only [appE, ha, ht]
  refine ⟨trivial, e, k, Y, hT.und hu, hT.cel hc1 (by simp), hT.zer hz, by rw [opO_look hx]; exact hY, ?_⟩
  rw [opO_look hs]
  exact ⟨rfl, L, ov_of hm, hl.1, hl.2, rfl, rfl⟩

/-! ### In the midst of a region -/
def aw (P : Program) (_mu : FuncId → Bool) (N : Nat) (ops : Array Oper) (Q : Exit → St → Prop) (l : List Oper) (st : St) : Prop :=
  (∀ o ∈ l, ∀ t, o.dst = some t → t < N) → ∀ (B : Base) (w : World) (ρ : Nm → Nat) (a : Act), a.defers = [] → a.tmps.size = N → Inv B w ρ st a.tmps → wpList P ops (Ends B N Q) l a w

variable {Q : Exit → St → Prop} {st F : St}

theorem stp_id {o : Oper} {st : St} (h : Stp P mu ops o st K) : Stp P mu ops o st K := h
theorem aw_nil (h : Q .normal st) : aw P mu N ops Q [] st := fun _ _ _ ρ _ hd hn hi => ⟨hd, hn, st, ρ, hi, h⟩
theorem aw_cons {o : Oper} {l : List Oper} (h : Stp P mu ops o st (aw P mu N ops Q l)) : aw P mu N ops Q (o :: l) st := fun hb B w ρ a hd hn hi => by
  obtain ⟨st', hs, h⟩ := h
  refine wpList_step fun K hK => ?_
  refine aStep_sound hi.sim (fun t ht => by rw [hn]; exact hb o (by simp) t ht) hs (fun w' ρ' u X h1 h2 h3 => ?_)
  exact hK _ _ (h (fun o ho => hb o (by simp [ho])) B w' ρ' _ (by rw [put_defers]; exact hd) (by rw [put_size]; exact hn) (hi.step h1 h2 h3))
theorem aw_weak {l : List Oper} (F : St) (hw : Weak st F) (h : aw P mu N ops Q l F) : aw P mu N ops Q l st := fun hb B w ρ a hd hn hi => by
  obtain ⟨ρ', hi'⟩ := hi.weak hw
  exact h hb B w ρ' a hd hn hi'
theorem awp_reg {id : Nat} (h : aw P mu N ops Q ops.toList st) : awp P mu N (.region id ops false) Q st := fun hm hok B w ρ a hd hn hi => by
  simp only [okC, Bool.and_eq_true, List.all_eq_true] at hok
  have hb : ∀ o ∈ ops.toList, ∀ t, o.dst = some t → t < N := fun o ho t ht => by
    have := hok.1 o ho
    rw [ht] at this
    simpa using this
  exact wp_region_list (h hb B w ρ a hd hn hi)
theorem awp_draw {id : Nat} (h : aOps P mu ops ops.toList (Q .normal) st) (hl : (ne4 ops.toList || lexOK mu ops) = true) : awp P mu N (.region id ops true) Q st := awp_region h fun _ => hl
theorem aOps_nil {Q : St → Prop} (h : Q st) : aOps P mu ops [] Q st := h

/-! ### Codes -/
theorem thenA_n {K : St → Prop} (h : K st) : thenA K Q .normal st := h
theorem blockA_n {id : Nat} (h : Q .normal st) : blockA id Q .normal st := h
theorem blockA_r {id : Nat} (h : Q .ret st) : blockA id Q .ret st := h
theorem thenA_r {K : St → Prop} (h : Q .ret st) : thenA K Q .ret st := h
theorem thenA_x {K : St → Prop} {id : Nat} (h : Q (.exit id) st) : thenA K Q (.exit id) st := h
theorem blockA_hit {id id' : Nat} (e : Nat.beq id' id = true) (h : Q .normal st) : blockA id Q (.exit id') st := by
  have := Nat.eq_of_beq_eq_true e
  simp only [blockA, if_pos this]; exact h
theorem blockA_miss {id id' : Nat} (e : Nat.beq id' id = false) (h : Q (.exit id') st) : blockA id Q (.exit id') st := by
  have : ¬ id' = id := fun q => by subst q; simp [Nat.beq_refl] at e
  simp only [blockA, if_neg this]; exact h
theorem awp_ifT {c : Operand} {x y : Code} {S' : Store} (hc : opO fl c = some (bvl true)) (h : awp P mu N x Q ⟨lk' fl, S'⟩) : awp P mu N (.cond c x y) Q ⟨lk' fl, S'⟩ :=
  awp_cond (t := true) (opO_look hc) (fun _ => h) (fun e => by cases e)
theorem awp_ifF {c : Operand} {x y : Code} {S' : Store} (hc : opO fl c = some (bvl false)) (h : awp P mu N y Q ⟨lk' fl, S'⟩) : awp P mu N (.cond c x y) Q ⟨lk' fl, S'⟩ :=
  awp_cond (t := false) (opO_look hc) (fun e => by cases e) (fun _ => h)
theorem awp_if {c : Operand} {x y : Code} {S' : Store} {t : Bool} (hc : opO fl c = some (bvl t)) (h1 : t = true → awp P mu N x Q ⟨lk' fl, S'⟩) (h2 : t = false → awp P mu N y Q ⟨lk' fl, S'⟩) : awp P mu N (.cond c x y) Q ⟨lk' fl, S'⟩ :=
  awp_cond (opO_look hc) h1 h2

theorem awp_mid {c : Code} (Mid : St → Prop) (h : awp P mu N c (thenA Mid Q) st) (hk : ∀ st, Mid st → K st) : awp P mu N c (thenA K Q) st :=
  awp_mono h fun e st' hh => by cases e <;> first | exact hk _ hh | exact hh

theorem awp_midB {c : Code} {id : Nat} (Mid : St → Prop) (h : awp P mu N c (blockA id (thenA Mid Q)) st) (hk : ∀ st, Mid st → K st) : awp P mu N c (blockA id (thenA K Q)) st :=
  awp_mono h fun e st' hh => by
    cases e with
    | normal => exact hk _ hh
    | exit i =>
      simp only [blockA] at hh ⊢
      split
      · rename_i e; rw [if_pos e] at hh; exact hk _ hh
      · rename_i e; rw [if_neg e] at hh; exact hh
    | _ => exact hh

/-- A loop: J is kept, mu falls. -/
theorem awp_rep {c : Code} {ι : Type} (F : ι → St) (J : ι → Prop) (μ : ι → Nat) (i0 : ι) (hj : J i0) (h0 : Weak st (F i0))
    (hr : ∀ i, J i → awp P mu N c (thenA (fun st' => ∃ i', Weak st' (F i') ∧ J i' ∧ μ i' < μ i) Q) (F i)) : awp P mu N (.loop c) Q st := by
  refine awp_loop (ι := { i : ι // J i }) (fun i => F i.1) (fun i => μ i.1) ⟨i0, hj⟩ h0 (fun i => awp_mono (hr i.1 i.2) ?_)
  rintro e st' h
  cases e with
  | normal => obtain ⟨i', h1, h2, h3⟩ := h; exact ⟨⟨i', h2⟩, h1, h3⟩
  | _ => exact h
theorem awp_rep2 {c : Code} {α β : Type} (F : α → β → St) (J : α → β → Prop) (μ : α → β → Nat) (a0 : α) (b0 : β) (hj : J a0 b0) (h0 : Weak st (F a0 b0))
    (hr : ∀ a b, J a b → awp P mu N c (thenA (fun st' => ∃ a' b', Weak st' (F a' b') ∧ J a' b' ∧ μ a' b' < μ a b) Q) (F a b)) : awp P mu N (.loop c) Q st :=
  awp_rep (ι := α × β) (fun x => F x.1 x.2) (fun x => J x.1 x.2) (fun x => μ x.1 x.2) (a0, b0) hj h0 fun x hx =>
    awp_mid _ (hr x.1 x.2 hx) fun _ ⟨a', b', h⟩ => ⟨(a', b'), h⟩
theorem awp_rep3 {c : Code} {α β γ : Type} (F : α → β → γ → St) (J : α → β → γ → Prop) (μ : α → β → γ → Nat) (a0 : α) (b0 : β) (c0 : γ) (hj : J a0 b0 c0) (h0 : Weak st (F a0 b0 c0))
    (hr : ∀ a b d, J a b d → awp P mu N c (thenA (fun st' => ∃ a' b' d', Weak st' (F a' b' d') ∧ J a' b' d' ∧ μ a' b' d' < μ a b d) Q) (F a b d)) : awp P mu N (.loop c) Q st :=
  awp_rep (ι := α × β × γ) (fun x => F x.1 x.2.1 x.2.2) (fun x => J x.1 x.2.1 x.2.2) (fun x => μ x.1 x.2.1 x.2.2) (a0, b0, c0) hj h0 fun x hx =>
    awp_mid _ (hr x.1 x.2.1 x.2.2 hx) fun _ ⟨a', b', d', h⟩ => ⟨(a', b', d'), h⟩
theorem awp_rep4 {c : Code} {α β γ δ : Type} (F : α → β → γ → δ → St) (J : α → β → γ → δ → Prop) (μ : α → β → γ → δ → Nat) (a0 : α) (b0 : β) (c0 : γ) (d0 : δ) (hj : J a0 b0 c0 d0) (h0 : Weak st (F a0 b0 c0 d0))
    (hr : ∀ a b d e, J a b d e → awp P mu N c (thenA (fun st' => ∃ a' b' d' e', Weak st' (F a' b' d' e') ∧ J a' b' d' e' ∧ μ a' b' d' e' < μ a b d e) Q) (F a b d e)) : awp P mu N (.loop c) Q st :=
  awp_rep (ι := α × β × γ × δ) (fun x => F x.1 x.2.1 x.2.2.1 x.2.2.2) (fun x => J x.1 x.2.1 x.2.2.1 x.2.2.2) (fun x => μ x.1 x.2.1 x.2.2.1 x.2.2.2) (a0, b0, c0, d0) hj h0 fun x hx =>
    awp_mid _ (hr x.1 x.2.1 x.2.2.1 x.2.2.2 hx) fun _ ⟨a', b', d', e', h⟩ => ⟨(a', b', d', e'), h⟩
end
end Go.Abs

/-
  What is no longer written is told as it stands; names dropped.
-/
namespace Go.Abs
open Go

inductive FrzC0 (A B : Store) : Cell → Cell → Prop
  | keep {x : Cell} (h : ∀ m, x.at m → B m ≠ none) : FrzC0 A B x x
  | nilI {k : IntKind} : FrzC0 A B (.sc (.slice none 0 0)) (.ints k [])
  | junk {x : Cell} : FrzC0 A B x .junk
  | win {m : Nm} {off len cm : Nat} {ty : TypeId} {k : IntKind} {L L' : List Int} (hm : A m = some (.ints ty k L)) (hb : B m = none) (hl : off + len ≤ L.length) (e : L' = (L.drop off).take len) : FrzC0 A B (.win m off len cm) (.ints k L')

inductive FrzC (A B : Store) : Cell → Cell → Prop
  | base {x y : Cell} (h : FrzC0 A B x y) : FrzC A B x y
  | ptr {m : Nm} {off : Nat} {ty : TypeId} {cs : List Cell} {ls : List Leaf} (hm : A m = some (.cells ty cs)) (hb : B m = none) (hl : ∀ j l, ls[j]? = some l → ∃ x, cs[off + j]? = some x ∧ FrzC0 A B x l.cell) : FrzC A B (.ptr m off) (.pim ls)

inductive FrzV (A B : Store) : AVal → AVal → Prop
  | c {x y : Cell} (h : FrzC A B x y) : FrzV A B (.c x) (.c y)
  | agg {xs ys : List Cell} (hl : xs.length = ys.length) (h : ∀ (i : Nat) (x y : Cell), xs[i]? = some x → ys[i]? = some y → FrzC A B x y) : FrzV A B (.agg xs) (.agg ys)
  | fn {f : FuncId} {xs : List Cell} (h : ∀ x ∈ xs, ∀ m, x.at m → B m ≠ none) : FrzV A B (.fn f xs) (.fn f xs)
  | accK {m : Nm} {o : AObj} (h1 : A m = some o) (h2 : B m = some o) : FrzV A B (.accv m) (.accv m)
  | acc {m : Nm} {ty : TypeId} {k : IntKind} {L : List Int} (hm : A m = some (.acc ty k L)) (hb : B m = none) : FrzV A B (.accv m) (.c (.ints k L))
  | nilA {m : Nm} {ty : TypeId} {k : IntKind} (hb : B m = some (.acc ty k [])) : FrzV A B (.c (.sc (.slice none 0 0))) (.accv m)

inductive FrzO (A B : Store) : AObj → AObj → Prop
  | ints {ty : TypeId} {k : IntKind} {L : List Int} : FrzO A B (.ints ty k L) (.ints ty k L)
  | acc {ty : TypeId} {k : IntKind} {L : List Int} : FrzO A B (.acc ty k L) (.acc ty k L)
  | cells {ty : TypeId} {xs ys : List Cell} (h : ∀ (i : Nat) (y : Cell), ys[i]? = some y → ∃ x, xs[i]? = some x ∧ FrzC A B x y) : FrzO A B (.cells ty xs) (.cells ty ys)

theorem FrzO.real {A B : Store} {o o' : AObj} (h : FrzO A B o o') : o.real = o'.real := by cases h <;> rfl

section
variable {w : World} {ρ : Nm → Nat} {A B : Store} {st F : St}

/-- B's names are among A's. -/
def Sub (A B : Store) : Prop := ∀ m o', B m = some o' → (∃ o, A m = some o ∧ FrzO A B o o') ∨ ((∀ o, A m = some o → o.isAcc = true) ∧ ∃ ty k, o' = .acc ty k [])

theorem IntsS.mono {G H : Nat → Prop} (h : ∀ b, G b → H b) {k : IntKind} {L : List Int} {n : Nat} {v : Value} (hv : IntsS w G k L n v) : IntsS w H k L n v := by
  obtain ⟨C, cap, e, h1, h2, h3⟩ := hv
  refine ⟨C, cap, e, h1, h2, fun hl => ?_⟩
  obtain ⟨b, off, e2, hf, hc⟩ := h3 hl
  exact ⟨b, off, e2, h _ hf, hc⟩
theorem LeafS.mono {G H : Nat → Prop} (h : ∀ b, G b → H b) {x : Leaf} {v : Value} (hv : LeafS w G x v) : LeafS w H x v := by
  cases x with
  | sc c => exact hv
  | ints k L => exact IntsS.mono h hv

theorem Sub.fr (h : Sub A B) {b : Nat} (hb : Fr w ρ A b) : Fr w ρ B b := ⟨hb.1, fun m o hm hr => by
  rcases h m o hm with ⟨o', h1, h2⟩ | ⟨hna, ty, k, rfl⟩
  · exact hb.2 m o' h1 (by rw [h2.real]; exact hr)
  · cases hr⟩

theorem Sub.gone (h : Sub A B) (he : EnvS w ρ A) {m : Nm} {o : AObj} (hm : A m = some o) (hr : o.real = true) (hb : B m = none) : Fr w ρ B (ρ m) :=
  ⟨he.lt hm hr, fun m' o' hm' hr' e => by
    rcases h m' o' hm' with ⟨o1, h1, h2⟩ | ⟨hna, ty, k, rfl⟩
    · have := he.inj m' m o1 o h1 hm (by rw [h2.real]; exact hr') hr e
      subst this
      rw [hb] at hm'; cases hm'
    · cases hr'⟩

theorem FrzC0.held (hs : Sub A B) (he : EnvS w ρ A) {x y : Cell} {u : Value} (h : FrzC0 A B x y) (hx : CellS w ρ A x u) : CellS w ρ B y u := by
  cases h with
  | keep h =>
    cases x with
    | sc v => exact hx
    | ints k L => exact IntsS.mono (fun b => hs.fr) hx
    | intc k L n => exact IntsS.mono (fun b => hs.fr) hx
    | seq sz L =>
      obtain ⟨C, cap, e, h1, h2, h3⟩ := hx
      refine ⟨C, cap, e, h1, h2, fun hl => ?_⟩
      obtain ⟨b, off, e2, hf, hc⟩ := h3 hl
      refine ⟨b, off, e2, hs.fr hf, fun i c j x h1 h2 => ?_⟩
      obtain ⟨u, a1, a2⟩ := hc i c j x h1 h2
      exact ⟨u, a1, a2.mono fun b => hs.fr⟩
    | win m off len cm =>
      obtain ⟨⟨o, ho, ha⟩, h2⟩ := hx
      refine ⟨?_, h2⟩
      cases e : B m with
      | none => exact absurd e (h m rfl)
      | some o' =>
        rcases hs m o' e with ⟨o1, h1, h3⟩ | ⟨hna, ty, k, rfl⟩
        · rw [ho] at h1; obtain rfl := Option.some.inj h1
          exact ⟨o', rfl, by cases h3 <;> first | rfl | exact ha⟩
        · rw [hna o ho] at ha; cases ha
    | ptr m off =>
      obtain ⟨⟨o, ho, ha⟩, h2⟩ := hx
      refine ⟨?_, h2⟩
      cases e : B m with
      | none => exact absurd e (h m rfl)
      | some o' =>
        rcases hs m o' e with ⟨o1, h1, h3⟩ | ⟨hna, ty, k, rfl⟩
        · rw [ho] at h1; obtain rfl := Option.some.inj h1
          exact ⟨o', rfl, by cases h3 <;> first | rfl | exact ha⟩
        · rw [hna o ho] at ha; cases ha
    | pim cs =>
      obtain ⟨b, off, e, hf, hc⟩ := hx
      refine ⟨b, off, e, hs.fr hf, fun j x hj => ?_⟩
      obtain ⟨u, a1, a2⟩ := hc j x hj
      exact ⟨u, a1, a2.mono fun b => hs.fr⟩
    | junk => trivial
  | nilI => exact ⟨none, 0, hx, Nat.le_refl _, Nat.le_refl _, fun h => by simp at h⟩
  | junk => trivial
  | win hm hb hl e =>
    rename_i m off len cm ty k L L'
    obtain ⟨-, C, cap, rfl, h1, h2, h3⟩ := hx
    have hlen : L'.length = len := by rw [e]; simp; omega
    refine ⟨C, cap, by rw [hlen], Nat.le_refl _, by omega, fun hp => ?_⟩
    obtain ⟨e1, -⟩ := h3 (by omega)
    refine ⟨ρ m, off, e1, hs.gone he hm rfl hb, fun i x hi => ?_⟩
    obtain ⟨vs, q1, q2⟩ := he.obj m _ hm
    have hi' : L[off + i]? = some x := by
      rw [e] at hi
      rcases Nat.lt_or_ge i len with q | q
      · rw [List.getElem?_take_of_lt q, List.getElem?_drop] at hi; exact hi
      · rw [List.getElem?_eq_none (by simp; omega)] at hi; cases hi
    rw [cell_of_heap q1]
    exact q2 _ _ hi'

theorem FrzC0.leaf (hs : Sub A B) (he : EnvS w ρ A) {x : Cell} {l : Leaf} {u : Value} (h : FrzC0 A B x l.cell) (hx : CellS w ρ A x u) (ho : u.oneCell' = true) : LeafS w (Fr w ρ B) l u := by
  have := h.held hs he hx
  cases l with
  | sc v => have e : u = v := this; subst e; exact ⟨rfl, ho⟩
  | ints k L => exact this

theorem FrzC.held (hs : Sub A B) (he : EnvS w ρ A) {x y : Cell} {u : Value} (h : FrzC A B x y) (hx : CellS w ρ A x u) : CellS w ρ B y u := by
  cases h with
  | base h => exact h.held hs he hx
  | ptr hm hb hl =>
    rename_i m off ty cs ls
    obtain ⟨-, rfl⟩ := hx
    refine ⟨ρ m, off, rfl, hs.gone he hm rfl hb, fun j l hj => ?_⟩
    obtain ⟨x, h1, h2⟩ := hl j l hj
    obtain ⟨vs, q1, q2⟩ := he.obj m _ hm
    obtain ⟨u, q3, q4, q5⟩ := q2 _ _ h1
    exact ⟨u, by rw [cell_of_heap q1]; exact q3, h2.leaf hs he q5 q4⟩

theorem FrzV.held (hs : Sub A B) (he : EnvS w ρ A) {x y : AVal} {u : Value} (h : FrzV A B x y) (hx : VS w ρ A x u) : VS w ρ B y u := by
  cases h with
  | c h => exact h.held hs he hx
  | agg hl h =>
    obtain ⟨vs, rfl, h1, h2⟩ := hx
    refine ⟨vs, rfl, by omega, fun i y hy => ?_⟩
    rename_i xs ys
    have hlt : i < xs.length := by
      rcases Nat.lt_or_ge i ys.length with q | q
      · omega
      · rw [List.getElem?_eq_none q] at hy; cases hy
    obtain ⟨u, p1, p2, p3⟩ := h2 i _ (List.getElem?_eq_getElem hlt)
    exact ⟨u, p1, p2, (h i _ y (List.getElem?_eq_getElem hlt) hy).held hs he p3⟩
  | fn h =>
    obtain ⟨vs, rfl, h1, h2⟩ := hx
    refine ⟨vs, rfl, h1, fun i y hy => ?_⟩
    obtain ⟨u, p1, p2, p3⟩ := h2 i y hy
    exact ⟨u, p1, p2, FrzC0.held hs he (.keep (h y (List.mem_of_getElem? hy))) p3⟩
  | accK h1 h2 =>
    obtain ⟨ty, k, L, ho, h⟩ := hx
    rw [h1] at ho
    obtain rfl := Option.some.inj ho
    exact ⟨ty, k, L, h2, h⟩
  | acc hm hb =>
    rename_i m ty k L
    obtain ⟨ty', k', L2, ho, h⟩ := hx
    rw [hm] at ho
    simp only [Option.some.injEq, AObj.acc.injEq] at ho
    obtain ⟨rfl, rfl, rfl⟩ := ho
    rcases h with ⟨rfl, A', rfl⟩ | ⟨hne, cap, rfl, h1, h2, h3⟩
    · exact ⟨A', 0, rfl, Nat.le_refl _, Nat.le_refl _, fun h => by simp at h⟩
    · have hr : (AObj.acc ty k L).real = true := by cases L <;> first | exact absurd rfl hne | rfl
      refine ⟨_, cap, rfl, Nat.le_refl _, h1, fun hp => ⟨ρ m, 0, rfl, hs.gone he hm hr hb, fun i x hi => ?_⟩⟩
      rcases he.obj m _ hm with rfl | ⟨vs, q1, q2⟩
      · exact absurd rfl hne
      · rw [cell_of_heap q1, Nat.zero_add]; exact q2 _ _ hi
  | nilA hb => exact ⟨_, _, _, hb, .inl ⟨rfl, none, hx⟩⟩

theorem Weak.frz (hO : Sub st.sg F.sg) (hkeep : ∀ m, F.sg (.out m) = st.sg (.out m)) (hfr : ∀ t, F.fr t = .c .junk ∨ FrzV st.sg F.sg (st.fr t) (F.fr t)) : Weak st F := fun w ρ tm hs => by
  refine ⟨ρ, ⟨fun m m' o o' h1 h2 r1 r2 e => ?_, fun m o hm => ?_, fun t => ?_⟩, fun m o hm hr => ?_, fun m hm => ?_⟩
  · rcases hO m o h1 with ⟨q, a1, a2⟩ | ⟨-, ty, k, rfl⟩
    · rcases hO m' o' h2 with ⟨q', b1, b2⟩ | ⟨-, ty, k, rfl⟩
      · exact hs.inj m m' q q' a1 b1 (by rw [a2.real]; exact r1) (by rw [b2.real]; exact r2) e
      · cases r2
    · cases r1
  · rcases hO m o hm with ⟨q, a1, a2⟩ | ⟨-, ty, k, rfl⟩
    · have ho := hs.obj m q a1
      cases a2 with
      | ints => exact ho
      | acc => exact ho
      | cells h =>
        obtain ⟨vs, q1, q2⟩ := ho
        refine ⟨vs, q1, fun i y hy => ?_⟩
        obtain ⟨x, h1, h2⟩ := h i y hy
        obtain ⟨u, p1, p2, p3⟩ := q2 i x h1
        exact ⟨u, p1, p2, h2.held hO hs.env p3⟩
    · exact .inl rfl
  · rcases hfr t with e | h
    · rw [e]; trivial
    · exact h.held hO hs.env (hs.fr t)
  · rcases hO m o hm with ⟨q, a1, a2⟩ | ⟨-, ty, k, rfl⟩
    · exact ⟨m, q, a1, by rw [a2.real]; exact hr, rfl, fun _ => rfl⟩
    · cases hr
  · cases m <;> simp [Nm.isOut] at hm
    exact ⟨hkeep _, rfl⟩

/-! ### Told by lists -/
def FrzF (A B : Store) (fl : FL) : FL → Prop
  | [] => True
  | (t, v) :: r => (∃ u, lkO fl t = some u ∧ FrzV A B u v) ∧ FrzF A B fl r
theorem FrzF.at {fl : FL} : ∀ {r : FL}, FrzF A B fl r → ∀ t v, lkO r t = some v → ∃ u, lkO fl t = some u ∧ FrzV A B u v
  | (s, v) :: r, ⟨h1, h2⟩, t, v', h => by
    simp only [lkO] at h
    split at h
    · rename_i e
      have := Nat.eq_of_beq_eq_true e
      subst this
      obtain rfl := Option.some.inj h
      exact h1
    · exact FrzF.at h2 t v' h

def outsL : SL → SL
  | [] => []
  | (.out m, o) :: r => (.out m, o) :: outsL r
  | _ :: r => outsL r
theorem outsL_lk (m : Nm) : ∀ sl : SL, lkS (outsL sl) (.out m) = lkS sl (.out m)
  | [] => rfl
  | (.out n, o) :: r => by simp only [outsL, lkS]; rw [outsL_lk m r]
  | (.loc n, o) :: r => by simp only [outsL, lkS]; rw [outsL_lk m r]; simp
  | (.new, o) :: r => by simp only [outsL, lkS]; rw [outsL_lk m r]; simp
  | (.fam n i, o) :: r => by simp only [outsL, lkS]; rw [outsL_lk m r]; simp

/-- The store's own part. -/
def FrzS (A B : Store) : SL → Prop
  | [] => True
  | (m, o') :: r => ((∃ o, A m = some o ∧ FrzO A B o o') ∨ ((∀ o, A m = some o → o.isAcc = true) ∧ ∃ ty k, o' = .acc ty k [])) ∧ FrzS A B r
theorem FrzS.at : ∀ {r : SL}, FrzS A B r → ∀ m o', lkS r m = some o' → (∃ o, A m = some o ∧ FrzO A B o o') ∨ ((∀ o, A m = some o → o.isAcc = true) ∧ ∃ ty k, o' = .acc ty k [])
  | (n, o) :: r, ⟨h1, h2⟩, m, o', h => by
    simp only [lkS] at h
    split at h
    · rename_i e; subst e; obtain rfl := Option.some.inj h; exact h1
    · exact FrzS.at h2 m o' h

theorem frz {fl fl' : FL} {sl sl' : SL} {S : Store} (hS : ∀ n b, S n = some b → b.cl S) (ho : outsL sl' = outsL sl) (hs : FrzS (ov sl (pushS S)) (ov sl' (pushS S)) sl') (hf : FrzF (ov sl (pushS S)) (ov sl' (pushS S)) fl fl') :
    Weak ⟨lk' fl, ov sl (pushS S)⟩ ⟨lk' fl', ov sl' (pushS S)⟩ := by
  have hout : ∀ m, lkS sl' (.out m) = lkS sl (.out m) := fun m => by rw [← outsL_lk, ho, outsL_lk]
  refine Weak.frz (fun m o' hm => ?_) (fun m => ?_) (fun t => ?_)
  · simp only [ov] at hm
    split at hm
    · rename_i o1 h1
      obtain rfl := Option.some.inj hm
      exact hs.at m _ h1
    · rename_i h1
      obtain ⟨q, b, rfl, hb, rfl⟩ := pushS_some hm
      refine .inl ⟨b.map .out, by simp only [ov]; rw [← hout, h1]; exact hm, ?_⟩
      cases b with
      | ints ty k L => exact .ints
      | acc ty k L => exact .acc
      | cells ty cs =>
        refine .cells fun i y hy => ⟨y, hy, .base (.keep fun m hm' => ?_)⟩
        have hy := List.mem_of_getElem? hy
        obtain ⟨z, hz, rfl⟩ := List.mem_map.1 hy
        obtain ⟨n, hn, rfl⟩ := Cell.map_at hm'
        have := hS q _ hb z hz n hn
        simp only [ov]
        split
        · simp
        · simp only [pushS]
          cases e : S n with
          | none => exact absurd e this
          | some z => simp
  · simp only [ov, hout]
  · show (lk' fl' t) = _ ∨ _
    simp only [lk']
    cases e : lkO fl' t with
    | none => exact .inl rfl
    | some v =>
      obtain ⟨u, h1, h2⟩ := hf.at t v e
      rw [h1]
      exact .inr h2

end
end Go.Abs

/-
  Contracts from bodies, told by lists.
-/
namespace Go.Abs
open Go

section
variable {P : Program} {mu : FuncId → Bool} {N : Nat} {Q : Exit → St → Prop} {st : St}

theorem awp_post {c : Code} (h : awp P mu N c (fun e st => ∃ F, Weak st F ∧ Q e F) st) : awp P mu N c Q st := fun hm hok B w ρ a hd hn hi =>
  Code.wp_mono (fun e a w ⟨h1, h2, st', ρ', h3, F, h4, h5⟩ => by
    obtain ⟨ρ2, h6⟩ := h3.weak h4
    exact ⟨h1, h2, F, ρ2, h6, h5⟩) (h hm hok B w ρ a hd hn hi)

theorem Cell.map_nm0 {φ : Nm → Nm} {x : Cell} (h : ∀ m, ¬ x.at m) : x.map φ = x := by
  cases x <;> first | rfl | exact absurd rfl (h _)
theorem Cell.maps_nm0 {φ : Nm → Nm} {cs : List Cell} (h : ∀ x ∈ cs, ∀ m, ¬ x.at m) : cs.map (·.map φ) = cs := by
  conv => rhs; rw [← List.map_id cs]
  exact List.map_congr_left fun x hx => Cell.map_nm0 (h x hx)
theorem AVal.map1_nm0 {φ : Nm → Nm} {x : AVal} (h : ∀ m, ¬ x.at1 m) : x.map1 φ = x := by
  cases x with
  | c x => simp only [AVal.map1, Cell.map_nm0 (x := x) h]
  | agg cs => simp only [AVal.map1, Cell.maps_nm0 (cs := cs) fun x hx m hm => h m ⟨x, hx, hm⟩]
  | fn f cs => simp only [AVal.map1, Cell.maps_nm0 (cs := cs) fun x hx m hm => h m ⟨x, hx, hm⟩]
  | accv m => exact absurd rfl (h m)
  | tup xs => rfl
theorem AVal.map_nm0 {φ : Nm → Nm} {x : AVal} (h : nm0 x) : x.map φ = x := by
  cases x with
  | tup xs =>
    have : xs.map (·.map1 φ) = xs := by
      conv => rhs; rw [← List.map_id xs]
      exact List.map_congr_left fun x hx => AVal.map1_nm0 fun m hm => h m ⟨x, hx, hm⟩
    simp only [AVal.map, this]
  | c x => exact AVal.map1_nm0 (x := .c x) h
  | agg x => exact AVal.map1_nm0 (x := .agg x) h
  | fn f x => exact AVal.map1_nm0 (x := .fn f x) h
  | accv m => exact absurd rfl (h m)

def entryL : Nat → List AVal → FL
  | _, [] => []
  | n, x :: xs => (n, x) :: entryL (n + 1) xs
theorem entryL_lk : ∀ (xs : List AVal) (n t : Nat), lkO (entryL n xs) t = if n ≤ t then xs[t - n]? else none
  | [], n, t => by simp [entryL, lkO]
  | x :: xs, n, t => by
    simp only [entryL, lkO]
    by_cases e : n = t
    · subst e; simp [Nat.beq_refl]
    · have : Nat.beq n t = false := by
        cases q : Nat.beq n t with
        | false => rfl
        | true => exact absurd (Nat.eq_of_beq_eq_true q) e
      rw [this]
      simp only
      rw [entryL_lk xs (n + 1) t]
      by_cases h : n ≤ t
      · rw [if_pos (by omega), if_pos h, show t - n = (t - (n + 1)) + 1 by omega, List.getElem?_cons_succ]
      · rw [if_neg (by omega), if_neg h]

/-- What the results' places hold. -/
def resL (T : TT) (fl : FL) : List ResultVar → Option (List AVal)
  | [] => some []
  | .tmp t :: r => match lkO fl t, resL T fl r with
    | some v, some vs => some (v :: vs)
    | _, _ => none
  | .cell a t :: r => match lkO fl a, agT T t, celT T t, resL T fl r with
    | some (.c (.pim cs)), some true, n + 1, some vs => match Nat.ble (n + 1) cs.length with
      | true => some (.agg ((cs.take (n + 1)).map Leaf.cell) :: vs)
      | false => none
    | _, _, _, _ => none
theorem resL_spec {T : TT} (hT : TOk P T) {S : Store} {fl : FL} : ∀ {rs : List ResultVar} {vs : List AVal}, resL T fl rs = some vs → ressE P ⟨lk' fl, S⟩ rs vs
  | [], vs, h => by simp only [resL, Option.some.injEq] at h; exact h.symm
  | .tmp t :: r, vs, h => by
    simp only [resL] at h
    split at h
    · rename_i v vs' h1 h2
      exact ⟨v, vs', (lkO_look h1).symm, resL_spec hT h2, (Option.some.inj h).symm⟩
    · cases h
  | .cell a t :: r, vs, h => by
    simp only [resL] at h
    split at h
    · rename_i cs n vs' h1 h2 h3 h4
      split at h
      · rename_i h5
        have h5 := Nat.le_of_ble_eq_true h5
        have h3 := hT.cel h3 (by simp)
        refine ⟨_, vs', ?_, resL_spec hT h4, (Option.some.inj h).symm⟩
        simp only [resE]
        rw [lkO_look h1]
        exact .inl ⟨hT.ag h2, by omega, by omega, by rw [h3]⟩
      · cases h
    · cases h

def flatL : List AVal → Bool
  | [] => true
  | [_] => true
  | xs => xs.all fun x => match x with | .tup _ => false | .accv _ => false | _ => true
theorem flatL_spec {xs : List AVal} (h : flatL xs = true) : ∀ x ∈ xs, xs.length = 1 ∨ (x.flat ∧ ∀ m, x ≠ .accv m) := by
  intro x hx
  match xs, h with
  | [_], _ => exact .inl rfl
  | a :: b :: r, h =>
    refine .inr ?_
    have := List.all_eq_true.1 h x hx
    cases x <;> first | (cases this; done) | exact ⟨trivial, fun m q => by cases q⟩

theorem undef_weak {fl : FL} {fr : Fram} {S : Store} (h : ∀ t v, lkO fl t = some v → fr t = v) : Weak ⟨fr, S⟩ ⟨lk' fl, S⟩ := fun w ρ tm hs => by
  refine ⟨ρ, ⟨hs.inj, hs.obj, fun t => ?_⟩, fun m o hm hr => ⟨m, o, hm, hr, rfl, fun _ => rfl⟩, fun _ _ => ⟨rfl, rfl⟩⟩
  simp only [lk']
  cases e : lkO fl t with
  | none => trivial
  | some v => have : VS w ρ S (fr t) (tm.getD t undef) := hs.fr t; rw [h t v e] at this; exact this

/-- Where a function begins. -/
theorem entry_weak (args : List AVal) (S : Store) : Weak ⟨entryF args, pushS S⟩ ⟨lk' (entryL 0 (args.map (·.map .out))), ov [] (pushS S)⟩ :=
  undef_weak (S := pushS S) fun t v h => by
    rw [entryL_lk] at h
    simp only [Nat.zero_le, if_true, Nat.sub_zero, List.getElem?_map, Option.map_eq_some_iff] at h
    obtain ⟨x, h1, h2⟩ := h
    simp only [entryF, h1, h2]

theorem ov_self {sl : SL} {S : Store} (h : ∀ m o, lkS sl m = some o → S m = some o) : ov sl S = S := by
  funext m
  simp only [ov]
  split
  · rename_i o e; exact (h m o e).symm
  · rfl

/-- The end of a function that writes nothing. -/
def EndF (P : Program) (fn : Func) (S : Store) (res : AVal) (e : Exit) (st : St) : Prop :=
  (e = .normal ∨ e = .ret) ∧ ∃ T fl vs, TOk P T ∧ Weak st ⟨lk' fl, ov [] (pushS S)⟩ ∧ resL T fl fn.results.toList = some vs ∧ flatL vs = true ∧ oneR vs = res

theorem afun {f : FuncId} {fn : Func} {c : Code} {args : List AVal} {res : AVal} (hf : P.funcs[f]? = some fn) (hb : fn.body = some c) (hname : (fn.name == "runtime.NumGoroutine") = false)
    (hm : P.follows .mixedOrders = true) (hok : okC fn.ntmps mu c = true) (hl : args.length ≤ fn.ntmps) (ha : ∀ x ∈ args, nm0 x) (hr : nm0 res)
    (h : ∀ S, (∀ n b, S n = some b → b.cl S) → awp P mu fn.ntmps c (EndF P fn S res) ⟨lk' (entryL 0 args), ov [] (pushS S)⟩) : AFun P f args res := by
  refine ⟨fun Φ => acalls hf hb hname hm hok hl fun n S _ hn hcl => ?_, hr, ha⟩
  refine awp_weak _ (entry_weak args S) ?_
  have e1 : args.map (·.map .out) = args := by
    conv => rhs; rw [← List.map_id args]
    exact List.map_congr_left fun x hx => AVal.map_nm0 (ha x hx)
  rw [e1]
  refine awp_post (awp_mono (h S hcl) ?_)
  rintro e st ⟨he, T, fl, vs, hT, h1, h2, h3, h4⟩
  refine ⟨_, h1, he, vs, .new, resL_spec hT h2, flatL_spec h3, rfl, ?_, fun m hm => absurd hm (hr m), by rw [h4, AVal.map_nm0 hr]⟩
  have hne : ∀ m, S m ≠ none → m ≠ n := fun m hm e => hm (by rw [e]; exact hn)
  refine ⟨fun m m' h1 h2 e => ?_, fun m o hm => ?_, fun m o hm => hcl m o hm⟩
  · rw [if_neg (hne m h1), if_neg (hne m' h2)] at e; injection e
  · have hm' : S m = some o := hm
    have e0 : o.cl S → (o.map fun m => if m = n then .new else .out m) = o.map .out := by
      intro hc
      cases o with
      | ints ty k L => rfl
      | acc ty k L => rfl
      | cells ty cs =>
        simp only [AObj.map]
        congr 1
        refine List.map_congr_left fun x hx => ?_
        cases x <;> simp only [Cell.map]
        · rename_i q _ _ _; rw [if_neg (hne q (hc _ hx q rfl))]
        · rename_i q _; rw [if_neg (hne q (hc _ hx q rfl))]
    rw [e0 (hcl m o hm')]
    show ov [] (pushS S) _ = _
    simp only [ov, lkS, if_neg (hne m (by rw [hm']; simp)), pushS, hm']
    rfl
theorem endF {T : TT} (hT : TOk P T) {fn : Func} {S : Store} {res : AVal} {e : Exit} {fl fl' : FL} {sl : SL} {vs : List AVal} (he : e = .normal ∨ e = .ret) (hS : ∀ n b, S n = some b → b.cl S) (ho : outsL sl = []) (hf : FrzF (ov sl (pushS S)) (ov [] (pushS S)) fl fl')
    (hr : resL T fl' fn.results.toList = some vs) (hfl : flatL vs = true) (h1 : oneR vs = res) : EndF P fn S res e ⟨lk' fl, ov sl (pushS S)⟩ :=
  ⟨he, T, fl', vs, hT, frz hS (by rw [ho]; rfl) trivial hf, hr, hfl, h1⟩

theorem kI {A B : Store} {k : IntKind} {L L' : List Int} (h : L = L') : FrzV A B (.c (.ints k L)) (.c (.ints k L')) := by
  subst h; exact .c (.base (.keep (fun m h => h.elim)))
theorem kN {A B : Store} {k : IntKind} {n n' : Int} (h : n = n') : FrzV A B (ivl k n) (ivl k n') := by
  subst h; exact .c (.base (.keep (fun m h => h.elim)))
theorem kW {A B : Store} {m : Nm} {off len cm : Nat} {ty : TypeId} {k : IntKind} {L L' : List Int} (hm : A m = some (.ints ty k L)) (hb : B m = none) (hl : off + len ≤ L.length) (e : (L.drop off).take len = L') :
    FrzV A B (.c (.win m off len cm)) (.c (.ints k L')) := .c (.base (.win hm hb hl e.symm))
theorem kS {A B : Store} {v : Value} : FrzV A B (.c (.sc v)) (.c (.sc v)) := .c (.base (.keep (fun m h => h.elim)))
theorem kX {A B : Store} {x : Cell} (h : ∀ m, x.at m → B m ≠ none) : FrzV A B (.c x) (.c x) := .c (.base (.keep h))
theorem kJ {A B : Store} {k : IntKind} : FrzV A B nils (.c (.ints k [])) := .c (.base .nilI)
theorem kWin {A B : Store} {m : Nm} {off len cm off' len' cm' : Nat} (hb : B m ≠ none) (h1 : off = off') (h2 : len = len') (h3 : cm = cm') : FrzV A B (.c (.win m off len cm)) (.c (.win m off' len' cm')) := by
  subst h1; subst h2; subst h3; exact .c (.base (.keep (fun q h => by have e : m = q := h; rw [← e]; exact hb)))
theorem kO {A B : Store} {ty : TypeId} {k : IntKind} {L L' : List Int} (h : L = L') : FrzO A B (.ints ty k L) (.ints ty k L') := by subst h; exact .ints
theorem kA {A B : Store} {ty : TypeId} {k : IntKind} {L L' : List Int} (h : L = L') : FrzO A B (.acc ty k L) (.acc ty k L') := by subst h; exact .acc
end
end Go.Abs

/-
  Limbs reckoned with: steps told in natural numbers.
-/
namespace Go.Abs
open Go

theorem wrap_u64 (n : Nat) : IntKind.u64.wrap (n : Int) = ((n % 18446744073709551616 : Nat) : Int) := by
  simp [IntKind.wrap, IntKind.bits, IntKind.signed]
theorem wrap_u64i (n : Int) : IntKind.u64.wrap n = n % 18446744073709551616 := by
  simp [IntKind.wrap, IntKind.bits, IntKind.signed]
theorem bv_nat (n : Nat) : (BitVec.ofInt IntKind.u64.bits (n : Int)).toNat = n % 18446744073709551616 := by
  simp [IntKind.bits]

section
variable {P : Program} {mu : FuncId → Bool} {ops : Array Oper} {fl : FL} {K : St → Prop} {S' : Store} {d : Nat} {ty : TypeId} {pos : String} {after : Array Edge} {t0 t1 : TypeId} {x y : Operand} {k' : IntKind} {a b : Int}

theorem stp_of {op : BinOp} {k : IntKind} {v : AVal} (hx : opO fl x = some (ivl k a)) (hy : opO fl y = some (ivl k' b)) (h : binE P op t0 (ivl k a) (ivl k' b) v) (kk : K ⟨lk' ((d, v) :: fl), S'⟩) :
    Stp P mu ops ⟨some d, .binOp op t0 x y t1, ty, pos, after, none⟩ ⟨lk' fl, S'⟩ K :=
  ⟨⟨putF (lk' fl) (some d) v, S'⟩, ⟨_, S', ⟨by simp only [PE]; rw [opO_look hx, opO_look hy]; exact h, rfl⟩, rfl⟩, by rw [putF_lk]; exact kk⟩

/-- A product of bounded ones. -/
theorem stp_mul (A C : Int) (hx : opO fl x = some (ivl .u64 a)) (hy : opO fl y = some (ivl .u64 b)) (ha : 0 ≤ a ∧ a ≤ A) (hb : 0 ≤ b ∧ b ≤ C) (hAC : A * C < 18446744073709551616)
    (kk : ∀ p, p = a * b → 0 ≤ p → p ≤ A * C → K ⟨lk' ((d, ivl .u64 p) :: fl), S'⟩) : Stp P mu ops ⟨some d, .binOp .mul t0 x y t1, ty, pos, after, none⟩ ⟨lk' fl, S'⟩ K := by
  have h0 : 0 ≤ a * b := Int.mul_nonneg ha.1 hb.1
  have h1 : a * b ≤ A * C := Int.le_trans (Int.mul_le_mul_of_nonneg_right ha.2 hb.1) (Int.mul_le_mul_of_nonneg_left hb.2 (Int.le_trans ha.1 ha.2))
  refine stp_of hx hy ?_ (kk _ rfl h0 h1)
  simp only [binE, isShift]
  exact ⟨trivial, by rw [show intE .mul .u64 a b _ = (_ = ivl .u64 (IntKind.u64.wrap (a * b))) from rfl, wrap_in (k := .u64) ⟨h0, by omega⟩]⟩

theorem stp_mulW (m n : Nat) (hx : opO fl x = some (ivl .u64 a)) (hy : opO fl y = some (ivl .u64 b)) (ha : a = m) (hb : b = n) (kk : K ⟨lk' ((d, ivl .u64 ((m * n % 18446744073709551616 : Nat) : Int)) :: fl), S'⟩) :
    Stp P mu ops ⟨some d, .binOp .mul t0 x y t1, ty, pos, after, none⟩ ⟨lk' fl, S'⟩ K := by
  subst ha; subst hb
  refine stp_of hx hy ?_ kk
  simp only [binE, isShift]
  exact ⟨trivial, by rw [show intE .mul .u64 (m : Int) n _ = (_ = ivl .u64 (IntKind.u64.wrap ((m : Int) * n))) from rfl, ← Int.natCast_mul, wrap_u64]⟩

theorem stp_mulN (m n : Nat) (hx : opO fl x = some (ivl .u64 a)) (hy : opO fl y = some (ivl .u64 b)) (ha : a = m) (hb : b = n) (h : m * n < 18446744073709551616) (kk : K ⟨lk' ((d, ivl .u64 ((m * n : Nat) : Int)) :: fl), S'⟩) :
    Stp P mu ops ⟨some d, .binOp .mul t0 x y t1, ty, pos, after, none⟩ ⟨lk' fl, S'⟩ K :=
  stp_mulW m n hx hy ha hb (by rw [Nat.mod_eq_of_lt h]; exact kk)

theorem stp_quoN {m n : Nat} (hx : opO fl x = some (ivl .u64 (m : Int))) (hy : opO fl y = some (ivl .u64 (n : Int))) (h : m < 18446744073709551616 ∧ n ≠ 0) (kk : K ⟨lk' ((d, ivl .u64 ((m / n : Nat) : Int)) :: fl), S'⟩) :
    Stp P mu ops ⟨some d, .binOp .quo t0 x y t1, ty, pos, after, none⟩ ⟨lk' fl, S'⟩ K := by
  refine stp_of hx hy ?_ kk
  simp only [binE, isShift]
  have hle := Nat.div_le_self m n
  refine ⟨trivial, show (n : Int) ≠ 0 ∧ _ = ivl .u64 (IntKind.u64.wrap ((m : Int).tdiv n)) from ⟨by omega, ?_⟩⟩
  rw [Int.tdiv_eq_ediv_of_nonneg (Int.natCast_nonneg _), ← Int.natCast_ediv, wrap_u64, Nat.mod_eq_of_lt (by omega)]
theorem stp_remN {m n : Nat} (hx : opO fl x = some (ivl .u64 (m : Int))) (hy : opO fl y = some (ivl .u64 (n : Int))) (h : n ≠ 0) (kk : K ⟨lk' ((d, ivl .u64 ((m % n : Nat) : Int)) :: fl), S'⟩) :
    Stp P mu ops ⟨some d, .binOp .rem t0 x y t1, ty, pos, after, none⟩ ⟨lk' fl, S'⟩ K := by
  refine stp_of hx hy ?_ kk
  simp only [binE, isShift]
  refine ⟨trivial, show (n : Int) ≠ 0 ∧ _ = ivl .u64 ((m : Int).tmod n) from ⟨by omega, ?_⟩⟩
  rw [Int.tmod_eq_emod_of_nonneg (Int.natCast_nonneg _), ← Int.natCast_emod]

theorem stp_addW (hx : opO fl x = some (ivl .u64 a)) (hy : opO fl y = some (ivl .u64 b)) (kk : K ⟨lk' ((d, ivl .u64 ((a + b) % 18446744073709551616)) :: fl), S'⟩) :
    Stp P mu ops ⟨some d, .binOp .add t0 x y t1, ty, pos, after, none⟩ ⟨lk' fl, S'⟩ K := by
  refine stp_of hx hy ?_ kk
  simp only [binE, isShift]
  exact ⟨trivial, by rw [← wrap_u64i]; rfl⟩
theorem stp_subW (hx : opO fl x = some (ivl .u64 a)) (hy : opO fl y = some (ivl .u64 b)) (kk : K ⟨lk' ((d, ivl .u64 ((a - b) % 18446744073709551616)) :: fl), S'⟩) :
    Stp P mu ops ⟨some d, .binOp .sub t0 x y t1, ty, pos, after, none⟩ ⟨lk' fl, S'⟩ K := by
  refine stp_of hx hy ?_ kk
  simp only [binE, isShift]
  exact ⟨trivial, by rw [← wrap_u64i]; rfl⟩

/-- The lower half. -/
theorem stp_mask (hx : opO fl x = some (ivl .u64 a)) (hy : opO fl y = some (ivl .u64 4294967295)) (h0 : 0 ≤ a) (kk : K ⟨lk' ((d, ivl .u64 (a % 4294967296)) :: fl), S'⟩) :
    Stp P mu ops ⟨some d, .binOp .and t0 x y t1, ty, pos, after, none⟩ ⟨lk' fl, S'⟩ K := by
  obtain ⟨n, rfl⟩ := Int.eq_ofNat_of_zero_le h0
  refine stp_of hx hy ?_ kk
  simp only [binE, isShift]
  refine ⟨trivial, ?_⟩
  rw [show intE .and .u64 (n : Int) 4294967295 _ = (_ = ivl .u64 (IntKind.u64.wrap (BitVec.ofInt IntKind.u64.bits (n : Int) &&& BitVec.ofInt IntKind.u64.bits 4294967295).toNat)) from rfl]
  rw [wrap_u64, BitVec.toNat_and, bv_nat, show ((4294967295 : Int)) = ((4294967295 : Nat) : Int) from rfl, bv_nat, show 4294967295 % 18446744073709551616 = 2 ^ 32 - 1 from rfl, Nat.and_two_pow_sub_one_eq_mod]
  congr 3
  omega

theorem stp_orN (m n : Nat) (hx : opO fl x = some (ivl .u64 a)) (hy : opO fl y = some (ivl .u64 b)) (ha : a = m) (hb : b = n) (hm : m < 18446744073709551616) (hn : n < 18446744073709551616) (kk : K ⟨lk' ((d, ivl .u64 ((m ||| n : Nat) : Int)) :: fl), S'⟩) :
    Stp P mu ops ⟨some d, .binOp .or t0 x y t1, ty, pos, after, none⟩ ⟨lk' fl, S'⟩ K := by
  subst ha; subst hb
  refine stp_of hx hy ?_ kk
  simp only [binE, isShift]
  refine ⟨trivial, ?_⟩
  rw [show intE .or .u64 (m : Int) n _ = (_ = ivl .u64 (IntKind.u64.wrap (BitVec.ofInt IntKind.u64.bits (m : Int) ||| BitVec.ofInt IntKind.u64.bits n).toNat)) from rfl]
  rw [wrap_u64, BitVec.toNat_or, bv_nat, bv_nat, Nat.mod_eq_of_lt hm, Nat.mod_eq_of_lt hn, Nat.mod_eq_of_lt (show m ||| n < 2 ^ 64 from Nat.or_lt_two_pow hm hn)]

theorem stp_shlN (m s : Nat) (hx : opO fl x = some (ivl .u64 a)) (hy : opO fl y = some (ivl k' b)) (ha : a = m) (hb : b = s) (kk : K ⟨lk' ((d, ivl .u64 ((m * 2 ^ s % 18446744073709551616 : Nat) : Int)) :: fl), S'⟩) :
    Stp P mu ops ⟨some d, .binOp .shl t0 x y t1, ty, pos, after, none⟩ ⟨lk' fl, S'⟩ K := by
  subst ha; subst hb
  refine stp_of hx hy ?_ kk
  simp only [binE, isShift, if_true]
  refine ⟨Int.natCast_nonneg _, ?_⟩
  rw [Int.toNat_natCast, show ((m : Int) * 2 ^ (min s IntKind.u64.bits)) = ((m * 2 ^ (min s 64) : Nat) : Int) by simp [IntKind.bits], wrap_u64]
  suffices hh : m * 2 ^ s % 18446744073709551616 = m * 2 ^ min s 64 % 18446744073709551616 by rw [hh]
  rcases Nat.lt_or_ge s 64 with h | h
  · rw [Nat.min_eq_left (by omega)]
  · rw [Nat.min_eq_right h]
    have e : 2 ^ s = 2 ^ 64 * 2 ^ (s - 64) := by rw [← Nat.pow_add]; congr 1; omega
    rw [e, Nat.mul_left_comm, Nat.mul_comm m]
    rw [show (18446744073709551616 : Nat) = 2 ^ 64 from rfl, Nat.mul_mod_right, Nat.mul_mod_left]

theorem stp_shrN (m s : Nat) (hx : opO fl x = some (ivl .u64 a)) (hy : opO fl y = some (ivl k' b)) (ha : a = m) (hb : b = s) (hm : m < 18446744073709551616) (kk : K ⟨lk' ((d, ivl .u64 ((m / 2 ^ s : Nat) : Int)) :: fl), S'⟩) :
    Stp P mu ops ⟨some d, .binOp .shr t0 x y t1, ty, pos, after, none⟩ ⟨lk' fl, S'⟩ K := by
  subst ha; subst hb
  refine stp_of hx hy ?_ kk
  simp only [binE, isShift, if_true]
  refine ⟨Int.natCast_nonneg _, ?_⟩
  rw [Int.toNat_natCast, Int.fdiv_eq_ediv_of_nonneg _ (Int.le_of_lt (Int.pow_pos (by decide))), show ((2 : Int) ^ (min s IntKind.u64.bits)) = ((2 ^ (min s 64) : Nat) : Int) by simp [IntKind.bits], ← Int.natCast_ediv]
  suffices hh : m / 2 ^ s = m / 2 ^ min s 64 by rw [hh]
  rcases Nat.lt_or_ge s 64 with h | h
  · rw [Nat.min_eq_left (by omega)]
  · rw [Nat.min_eq_right h, Nat.div_eq_of_lt (Nat.lt_of_lt_of_le hm (by show 2 ^ 64 ≤ 2 ^ s; exact Nat.pow_le_pow_right (by decide) h)), Nat.div_eq_of_lt hm]

def p2T : Int → Option Int
  | .ofNat 1 => some 2
  | .ofNat 8 => some 256
  | .ofNat 16 => some 65536
  | .ofNat 32 => some 4294967296
  | _ => none
theorem p2T_spec {s c : Int} (h : p2T s = some c) : (2 : Int) ^ (min s.toNat IntKind.u64.bits) = c ∧ 0 ≤ s := by
  unfold p2T at h
  split at h <;> first | cases h; done | (obtain rfl := Option.some.inj h; exact ⟨by decide, by decide⟩)

/-- A shift by a written number. -/
theorem stp_shrC {c : Int} (hx : opO fl x = some (ivl .u64 a)) (hy : opO fl y = some (ivl k' b)) (hc : p2T b = some c) (kk : K ⟨lk' ((d, ivl .u64 (a / c)) :: fl), S'⟩) :
    Stp P mu ops ⟨some d, .binOp .shr t0 x y t1, ty, pos, after, none⟩ ⟨lk' fl, S'⟩ K := by
  obtain ⟨h1, h2⟩ := p2T_spec hc
  refine stp_of hx hy ?_ kk
  simp only [binE, isShift, if_true]
  refine ⟨h2, ?_⟩
  rw [h1, Int.fdiv_eq_ediv_of_nonneg]
  rw [← h1]; exact Int.le_of_lt (Int.pow_pos (by decide))

theorem stp_sind' {T : TT} (hT : TOk P T) {i : Operand} {t : Nat} {s : ByteArray} {k : IntKind} {j : Int} (n : Nat) (hu : undT T t = some .string)
    (hx : opO fl x = some (.c (.sc (.string s)))) (hi : opO fl i = some (ivl k j)) (h0 : 0 ≤ j) (hb : ∃ b, s[j.toNat]? = some b ∧ b.toNat = n) (kk : K ⟨lk' ((d, ivl .u8 n) :: fl), S'⟩) :
    Stp P mu ops ⟨some d, .index t x i, ty, pos, after, none⟩ ⟨lk' fl, S'⟩ K := by
  obtain ⟨b, h1, rfl⟩ := hb
  exact stp_sind hT hu hx hi h0 h1 kk
end
end Go.Abs

/-
  Short names for the steps: what is found by reckoning is found by itself.
-/
namespace Go.Abs
open Go

section
variable {P : Program} {T : TT} {mu : FuncId → Bool} {N : Nat} {ops : Array Oper} {fl : FL} {sl : SL} {S S' : Store} {K : St → Prop} {Q : Exit → St → Prop} {st : St}
  {d : Nat} {dst : Option Nat} {ty : TypeId} {pos : String} {after : Array Edge}

theorem zr1 {x y : Code} (h : awp P mu N x (thenA (awp P mu N y Q) Q) st) : awp P mu N (.seq x y) Q st := awp_seq h
theorem zr2 {id : Nat} {c : Code} (h : awp P mu N c (blockA id Q) st) : awp P mu N (.block id c) Q st := awp_block h
theorem zr3 {id : Nat} (h : aw P mu N ops Q ops.toList st) : awp P mu N (.region id ops false) Q st := awp_reg h
theorem zr4 {id : Nat} (h : aOps P mu ops ops.toList (Q .normal) st) (hl : ne4 ops.toList = true := by exact rfl) : awp P mu N (.region id ops true) Q st := awp_draw h (by rw [hl]; rfl)
theorem zr19 {id : Nat} (h : aOps P mu ops ops.toList (Q .normal) st) (hl : lexOK mu ops = true := by decide) : awp P mu N (.region id ops true) Q st := awp_draw h (by rw [hl, Bool.or_true])
theorem zr5 (h : Q .normal st) : awp P mu N .skip Q st := awp_skip h
theorem zr6 (h : Q .ret st) : awp P mu N .ret Q st := awp_ret h
theorem zr7 {id : Nat} (h : Q (.exit id) st) : awp P mu N (.exit id) Q st := awp_exit h
theorem zr8 {c : Operand} {x y : Code} (h : awp P mu N x Q ⟨lk' fl, S'⟩) (hc : opO fl c = some (bvl true) := by exact rfl) : awp P mu N (.cond c x y) Q ⟨lk' fl, S'⟩ := awp_ifT hc h
theorem zr9 {c : Operand} {x y : Code} (h : awp P mu N y Q ⟨lk' fl, S'⟩) (hc : opO fl c = some (bvl false) := by exact rfl) : awp P mu N (.cond c x y) Q ⟨lk' fl, S'⟩ := awp_ifF hc h
theorem zr10 (h : K st) : thenA K Q .normal st := h
theorem zr11 (h : Q .ret st) : thenA K Q .ret st := h
theorem zr12 {id : Nat} (h : Q (.exit id) st) : thenA K Q (.exit id) st := h
theorem zr13 {id : Nat} (h : Q .normal st) : blockA id Q .normal st := h
theorem zr14 {id : Nat} (h : Q .ret st) : blockA id Q .ret st := h
theorem zr15 {id id' : Nat} (h : Q .normal st) (e : Nat.beq id' id = true := by exact rfl) : blockA id Q (.exit id') st := blockA_hit e h
theorem zr16 {id id' : Nat} (h : Q (.exit id') st) (e : Nat.beq id' id = false := by exact rfl) : blockA id Q (.exit id') st := blockA_miss e h
theorem zr17 (h : Q .normal st) : aw P mu N ops Q [] st := aw_nil h
theorem zr18 {Q : St → Prop} (h : Q st) : aOps P mu ops [] Q st := h
theorem zw1 {o : Oper} {l : List Oper} (h : Stp P mu ops o st (aw P mu N ops Q l)) : aw P mu N ops Q (o :: l) st := aw_cons h
theorem zw2 {o : Oper} {rest : List Oper} {Q : St → Prop} (h : Stp P mu ops o st (aOps P mu ops rest Q)) : aOps P mu ops (o :: rest) Q st := h
theorem zw3 {o : Oper} (h : Stp P mu ops o st K) : Stp P mu ops o st K := h

theorem zg1 {op : Op} {j t : Nat} {want : Bool} (_ : TOk P T) (k : Stp P mu ops ⟨dst, op, ty, pos, after, none⟩ ⟨lk' fl, S'⟩ K) (hg : (ops[j]?).bind (·.dst) = some t := by exact rfl) (hb : lkO fl t = some (bvl want) := by exact rfl) :
    Stp P mu ops ⟨dst, op, ty, pos, after, some (j, want)⟩ ⟨lk' fl, S'⟩ K := stp_gT hg hb k
theorem zg2 {op : Op} {j t : Nat} {b want : Bool} (_ : TOk P T) (k : K ⟨lk' ((d, .c (.sc undef)) :: fl), S'⟩) (hg : (ops[j]?).bind (·.dst) = some t := by exact rfl) (hb : lkO fl t = some (bvl b) := by exact rfl) (hne : b = !want := by exact rfl) :
    Stp P mu ops ⟨some d, op, ty, pos, after, some (j, want)⟩ ⟨lk' fl, S'⟩ K := stp_gF hg hb hne k
theorem zg3 {op : Op} {j t : Nat} {vs : Array Value} {want : Bool} (_ : TOk P T) (k : K ⟨lk' ((d, .c (.sc undef)) :: fl), S'⟩) (hg : (ops[j]?).bind (·.dst) = some t := by exact rfl) (hb : lkO fl t = some (.c (.sc (.tuple vs))) := by exact rfl) :
    Stp P mu ops ⟨some d, op, ty, pos, after, some (j, want)⟩ ⟨lk' fl, S'⟩ K := stp_gU hg hb k
theorem zg4 {t : TypeId} {x : Operand} {cs : List Leaf} {y : Cell} (hT : TOk P T) (k : K ⟨lk' ((d, .c y) :: fl), S'⟩) (hx : opO fl x = some (.c (.pim cs)) := by exact rfl) (ha : agT T t = some false := by exact rfl) (hy : headL cs = some y := by exact rfl) :
    Stp P mu ops ⟨some d, .load t x, ty, pos, after, none⟩ ⟨lk' fl, S'⟩ K := stp_loadp hT hx ha hy k
theorem zg5 {t0 t1 : TypeId} {x y : Operand} {m n : Nat} (_ : TOk P T) (kk : K ⟨lk' ((d, ivl .u64 ((m / n : Nat) : Int)) :: fl), S'⟩) (hx : opO fl x = some (ivl .u64 (m : Int)) := by exact rfl) (hy : opO fl y = some (ivl .u64 (n : Int)) := by exact rfl)
    (h : m < 18446744073709551616 ∧ n ≠ 0 := by first | exact True.intro | omega | (simp only [and_true, List.length_map, List.length_replicate, List.length_set, List.length_append, List.length_cons, List.length_nil, List.length_take, List.length_drop] at *; omega)) : Stp P mu ops ⟨some d, .binOp .quo t0 x y t1, ty, pos, after, none⟩ ⟨lk' fl, S'⟩ K := stp_quoN hx hy h kk
theorem zg6 {t0 t1 : TypeId} {x y : Operand} {m n : Nat} (_ : TOk P T) (kk : K ⟨lk' ((d, ivl .u64 ((m % n : Nat) : Int)) :: fl), S'⟩) (hx : opO fl x = some (ivl .u64 (m : Int)) := by exact rfl) (hy : opO fl y = some (ivl .u64 (n : Int)) := by exact rfl)
    (h : n ≠ 0 := by first | exact True.intro | omega | (simp only [and_true, List.length_map, List.length_replicate, List.length_set, List.length_append, List.length_cons, List.length_nil, List.length_take, List.length_drop] at *; omega)) : Stp P mu ops ⟨some d, .binOp .rem t0 x y t1, ty, pos, after, none⟩ ⟨lk' fl, S'⟩ K := stp_remN hx hy h kk
theorem zg7 {t0 t1 : TypeId} {x y : Operand} {a : Int} (_ : TOk P T) (kk : K ⟨lk' ((d, ivl .u64 (a % 4294967296)) :: fl), S'⟩) (hx : opO fl x = some (ivl .u64 a) := by exact rfl) (hy : opO fl y = some (ivl .u64 4294967295) := by exact rfl) (h0 : 0 ≤ a := by first | exact True.intro | omega | (simp only [and_true, List.length_map, List.length_replicate, List.length_set, List.length_append, List.length_cons, List.length_nil, List.length_take, List.length_drop] at *; omega)) :
    Stp P mu ops ⟨some d, .binOp .and t0 x y t1, ty, pos, after, none⟩ ⟨lk' fl, S'⟩ K := stp_mask hx hy h0 kk
theorem zg8 {t0 t1 : TypeId} {x y : Operand} {k' : IntKind} {a b c : Int} (_ : TOk P T) (kk : K ⟨lk' ((d, ivl .u64 (a / c)) :: fl), S'⟩) (hx : opO fl x = some (ivl .u64 a) := by exact rfl) (hy : opO fl y = some (ivl k' b) := by exact rfl) (hc : p2T b = some c := by exact rfl) :
    Stp P mu ops ⟨some d, .binOp .shr t0 x y t1, ty, pos, after, none⟩ ⟨lk' fl, S'⟩ K := stp_shrC hx hy hc kk
theorem zg9 {op : Op} {v : AVal} {C : Prop} (hT : TOk P T) (k : K ⟨lk' ((d, v) :: fl), S'⟩) (h : evP T true fl op = some (v, C) := by exact rfl) (hc : C := by first | exact True.intro | omega | (simp only [and_true, List.length_map, List.length_replicate, List.length_set, List.length_append, List.length_cons, List.length_nil, List.length_take, List.length_drop] at *; omega)) :
    Stp P mu ops ⟨some d, op, ty, pos, after, none⟩ ⟨lk' fl, S'⟩ K := stp_pure hT true h hc k
theorem zg10 {t : TypeId} {x : Operand} {m : Nm} {off : Nat} {o : AObj} {y : Cell} {C : Prop} (hT : TOk P T) (k : K ⟨lk' ((d, .c y) :: fl), ov sl S⟩) (hx : opO fl x = some (.c (.ptr m off)) := by exact rfl) (ha : agT T t = some false := by exact rfl)
    (hm : lkS sl m = some o := by exact lks) (hy : objO o off = some (y, C) := by exact rfl) (hc : C := by first | exact True.intro | omega | (simp only [and_true, List.length_map, List.length_replicate, List.length_set, List.length_append, List.length_cons, List.length_nil, List.length_take, List.length_drop] at *; omega)) : Stp P mu ops ⟨some d, .load t x, ty, pos, after, none⟩ ⟨lk' fl, ov sl S⟩ K := stp_load hT hx ha hm hy hc k
theorem zg11 {t : TypeId} {x y : Operand} {m : Nm} {off : Nat} {o o' : AObj} {v : AVal} {C : Prop} (hT : TOk P T) (k : K ⟨lk' fl, ov ((m, o') :: sl) S⟩) (hx : opO fl x = some (.c (.ptr m off)) := by exact rfl) (hy : opO fl y = some v := by exact rfl)
    (hm : lkS sl m = some o := by exact lks) (ho : putO T t o off v = some (o', C) := by exact rfl) (hc : C := by first | exact True.intro | omega | (simp only [and_true, List.length_map, List.length_replicate, List.length_set, List.length_append, List.length_cons, List.length_nil, List.length_take, List.length_drop] at *; omega)) : Stp P mu ops ⟨none, .store t x y, ty, pos, after, none⟩ ⟨lk' fl, ov sl S⟩ K := stp_store hT hx hy hm ho hc k
theorem zg12 {e : TypeId} {z : List Cell} (hT : TOk P T) (k : K ⟨lk' ((d, .c (.ptr (.loc d) 0)) :: fl), ov ((.loc d, .cells e z) :: sl) (pushS S)⟩) (hz : zerF T e = some z := by exact rfl) (hf : freeO sl d = true := by exact rfl) :
    Stp P mu ops ⟨some d, .alloc e, ty, pos, after, none⟩ ⟨lk' fl, ov sl (pushS S)⟩ K := stp_alloc hT hz hf k
theorem zg13 {t e : TypeId} {l c : Operand} {a b : Int} {ka kb k : IntKind} (hT : TOk P T) (kk : K ⟨lk' ((d, .c (.win (.loc d) 0 a.toNat b.toNat)) :: fl), ov ((.loc d, .ints e k (List.replicate b.toNat 0)) :: sl) (pushS S)⟩)
    (ht : undT T t = some (.slice e) := by exact rfl) (hc1 : celT T e = 1 := by exact rfl) (hb8 : bytT T e = some 8 := by exact rfl) (hz : zerF T e = some [.sc (.int k 0)] := by exact rfl)
    (hl : opO fl l = some (ivl ka a) := by exact rfl) (hc : opO fl c = some (ivl kb b) := by exact rfl) (hf : freeO sl d = true := by exact rfl) (hb : 0 ≤ a ∧ a ≤ b ∧ b ≤ 35184372088832 := by first | exact True.intro | omega | (simp only [and_true, List.length_map, List.length_replicate, List.length_set, List.length_append, List.length_cons, List.length_nil, List.length_take, List.length_drop] at *; omega)) :
    Stp P mu ops ⟨some d, .makeSlice t l c, ty, pos, after, none⟩ ⟨lk' fl, ov sl (pushS S)⟩ K := stp_make hT ht hc1 hb8 hz hl hc hf hb kk
theorem zg14 {t e : TypeId} {l c : Operand} {a b : Int} {ka kb k : IntKind} (hT : TOk P T) (kk : K ⟨lk' ((d, .c (.win (.loc d) 0 a.toNat b.toNat)) :: fl), ov ((.loc d, .ints e k (List.replicate b.toNat 0)) :: sl) (pushS S)⟩)
    (ht : undT T t = some (.slice e) := by exact rfl) (hc1 : celT T e = 1 := by exact rfl) (hb8 : bytT T e = some 1 := by exact rfl) (hz : zerF T e = some [.sc (.int k 0)] := by exact rfl)
    (hl : opO fl l = some (ivl ka a) := by exact rfl) (hc : opO fl c = some (ivl kb b) := by exact rfl) (hf : freeO sl d = true := by exact rfl) (hb : 0 ≤ a ∧ a ≤ b ∧ b ≤ 281474976710656 := by first | exact True.intro | omega | (simp only [and_true, List.length_map, List.length_replicate, List.length_set, List.length_append, List.length_cons, List.length_nil, List.length_take, List.length_drop] at *; omega)) :
    Stp P mu ops ⟨some d, .makeSlice t l c, ty, pos, after, none⟩ ⟨lk' fl, ov sl (pushS S)⟩ K := stp_make1 hT ht hc1 hb8 hz hl hc hf hb kk
theorem zg15 {t e : TypeId} {n : Nat} {ps : Array (Nat × Operand)} {k : IntKind} {L : List Int} (hT : TOk P T) (kk : K ⟨lk' ((d, .c (.win (.loc d) 0 n n)) :: fl), ov ((.loc d, .ints e k L) :: sl) (pushS S)⟩)
    (ht : undT T t = some (.slice e) := by exact rfl) (hc1 : celT T e = 1 := by exact rfl) (hz : zerF T e = some [.sc (.int k 0)] := by exact rfl) (hp : intsPart fl ps.toList 0 = some (k, L) := by exact rfl)
    (hn : Nat.beq ps.toList.length n = true := by exact rfl) (hsmall : Nat.ble n 1000 = true := by exact rfl) (hf : freeO sl d = true := by exact rfl) :
    Stp P mu ops ⟨some d, .buildSlice t n ps, ty, pos, after, none⟩ ⟨lk' fl, ov sl (pushS S)⟩ K := stp_ints hT ht hc1 hz hp hn hsmall hf kk

theorem s_cmp {op : BinOp} {t0 T' : TypeId} {x y : Operand} {k k' : IntKind} {a b : Int} {p : Prop} (h1 : p → K ⟨lk' ((d, bvl true) :: fl), S'⟩) (h2 : ¬ p → K ⟨lk' ((d, bvl false) :: fl), S'⟩)
    (hx : opO fl x = some (ivl k a) := by exact rfl) (hy : opO fl y = some (ivl k' b) := by exact rfl) (hk : kEq k k' = true := by exact rfl) (hp : cmpP op a b = some p := by exact rfl) :
    Stp P mu ops ⟨some d, .binOp op t0 x y T', ty, pos, after, none⟩ ⟨lk' fl, S'⟩ K := stp_cmp hx hy hk hp h1 h2
theorem s_call {f : FuncId} {as : Array Operand} {tys : Array TypeId} {xs args : List AVal} {res : AVal} (hc : AFun P f args res) (k : K ⟨lk' ((d, res) :: fl), ov sl (pushS S)⟩) (hx : opsO fl as.toList = some xs := by exact rfl)
    (hle : ALes xs args := by repeat (first | exact trivial | refine ⟨ALe.refl _, ?_⟩ | refine ⟨.inr (.inl ⟨_, rfl, rfl⟩), ?_⟩)) (hf : freeO sl d = true := by exact rfl) :
    Stp P mu ops ⟨some d, .call ⟨.value (.func f), as, tys⟩, ty, pos, after, none⟩ ⟨lk' fl, ov sl (pushS S)⟩ K := stp_callF hc hx hle hf k

theorem s_appR {s x : Operand} {tys : Array TypeId} {t e : TypeId} {as : Array Operand} {m : Nm} {k : IntKind} {L Y : List Int} {len cm : Nat} {xv : AVal} (hT : TOk P T) (hY : srcE (ov sl S) xv k Y)
    (hl : len + Y.length ≤ cm ∧ len + Y.length ≤ L.length) (kk : K ⟨lk' ((d, .c (.win m 0 (len + Y.length) cm)) :: killL m fl), ov ((m, .ints e k (L.take len ++ Y ++ L.drop (len + Y.length))) :: sl) S⟩)
    (ha : as.toList = [s, x] := by exact rfl) (ht : tys.toList = [t, t] := by exact rfl) (hu : undT T t = some (.slice e) := by exact rfl) (hc1 : celT T e = 1 := by exact rfl)
    (hz : zerT T e = some (.int k 0) := by exact rfl) (hs : opO fl s = some (.c (.win m 0 len cm)) := by exact rfl) (hx : opO fl x = some xv := by exact rfl) (hm : lkS sl m = some (.ints e k L) := by exact lks) :
    Stp P mu ops ⟨some d, .call ⟨.builtin .append, as, tys⟩, ty, pos, after, none⟩ ⟨lk' fl, ov sl S⟩ K := stp_appR hT ha ht hu hc1 hz hs hx hm hY hl kk
theorem s_app {s x : Operand} {tys : Array TypeId} {t e : TypeId} {as : Array Operand} {m : Nm} {k : IntKind} {L Y : List Int} {xv : AVal} {nb : Nat} (hT : TOk P T) (hY : srcE (ov sl S) xv k Y)
    (hl : (L.length + Y.length) * nb ≤ 140737488355328 ∧ L.length + Y.length ≤ maxLen) (kk : K ⟨lk' ((d, .accv m) :: killL m fl), ov ((m, .acc e k (L ++ Y)) :: sl) S⟩)
    (ha : as.toList = [s, x] := by exact rfl) (ht : tys.toList = [t, t] := by exact rfl) (hu : undT T t = some (.slice e) := by exact rfl) (hc1 : celT T e = 1 := by exact rfl)
    (hz : zerT T e = some (.int k 0) := by exact rfl) (hs : opO fl s = some (.accv m) := by exact rfl) (hx : opO fl x = some xv := by exact rfl) (hm : lkS sl m = some (.acc e k L) := by exact lks)
    (ho : m.isOut = false := by exact rfl) (hb : bytT T e = some nb := by exact rfl) :
    Stp P mu ops ⟨some d, .call ⟨.builtin .append, as, tys⟩, ty, pos, after, none⟩ ⟨lk' fl, ov sl S⟩ K := stp_app hT ha ht hu hc1 hz hs hx hm ho hY hb hl kk
theorem s_app0 {s x : Operand} {tys : Array TypeId} {t e : TypeId} {as : Array Operand} {k : IntKind} {Y : List Int} {xv : AVal} {nb : Nat} (hT : TOk P T) (hY : srcE (ov sl (pushS S)) xv k Y)
    (hl : Y.length * nb ≤ 140737488355328 ∧ Y.length ≤ maxLen) (kk : K ⟨lk' ((d, .accv (.loc d)) :: killL (.loc d) fl), ov ((.loc d, .acc e k Y) :: sl) (pushS S)⟩)
    (ha : as.toList = [s, x] := by exact rfl) (ht : tys.toList = [t, t] := by exact rfl) (hu : undT T t = some (.slice e) := by exact rfl) (hc1 : celT T e = 1 := by exact rfl)
    (hz : zerT T e = some (.int k 0) := by exact rfl) (hs : opO fl s = some nils := by exact rfl) (hx : opO fl x = some xv := by exact rfl) (hf : freeO sl d = true := by exact rfl) (hb : bytT T e = some nb := by exact rfl) :
    Stp P mu ops ⟨some d, .call ⟨.builtin .append, as, tys⟩, ty, pos, after, none⟩ ⟨lk' fl, ov sl (pushS S)⟩ K := stp_app0 hT ha ht hu hc1 hz hs hx hf hY hb hl kk
end
end Go.Abs
