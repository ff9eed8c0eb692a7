/-
  An abstract machine for this program, contracts of its functions: part MAa (no statement by itself).
-/
import Derived.WalkKit
import Derived.Orders
import Derived.Still
import Derived.Maps.AppendAt
set_option linter.unusedVariables false
set_option linter.unusedSimpArgs false

/-
  An abstract machine over Go programs: what an operation does, said of lists and names in the place of memory. Definitions, and how abstract values are held by real ones.
-/
namespace Go.Abs
open Go

inductive Nm where
  | loc (s : Nat)
  | out (m : Nm)
  | new
  | fam (m : Nm) (i : Nat)
  deriving DecidableEq

inductive Leaf where
  | sc (v : Value)
  | ints (k : IntKind) (L : List Int)

inductive Cell where
  | sc (v : Value)
  | ints (k : IntKind) (L : List Int)
  | intc (k : IntKind) (L : List Int) (n : Nat)
  | seq (sz : Nat) (L : List (List Leaf))
  | win (m : Nm) (off len cmin : Nat)
  | ptr (m : Nm) (off : Nat)
  | pim (cs : List Leaf)
  | junk

inductive AVal where
  | c (x : Cell)
  | agg (cs : List Cell)
  | fn (f : FuncId) (caps : List Cell)
  | accv (m : Nm)
  | tup (xs : List AVal)

inductive AObj where
  | cells (ty : TypeId) (cs : List Cell)
  | ints (ty : TypeId) (k : IntKind) (L : List Int)
  | acc (ty : TypeId) (k : IntKind) (L : List Int)

def AObj.real : AObj → Bool
  | .acc _ _ [] => false
  | _ => true

def AObj.isAcc : AObj → Bool
  | .acc .. => true
  | _ => false
theorem AObj.real_of {o : AObj} (h : o.isAcc = false) : o.real = true := by cases o <;> first | rfl | cases h

abbrev Store := Nm → Option AObj

def upd (S : Store) (m : Nm) (o : AObj) : Store := fun n => if n = m then some o else S n
def del (S : Store) (m : Nm) : Store := fun n => if n = m then none else S n

abbrev Fram := Nat → AVal

def lk : List (Nat × AVal) → Fram
  | [], _ => .c .junk
  | (s, v) :: r, t => if t = s then v else lk r t

def putF (fr : Fram) (d : Option Nat) (v : AVal) : Fram :=
  match d with
  | some d => fun t => if t = d then v else fr t
  | none => fr

structure St where
  fr : Fram
  sg : Store

def look (fr : Fram) : Operand → AVal
  | .tmp t => fr t
  | .const v => .c (.sc v)
  | .global _ => .c .junk
  | .func f => .fn f []

def Leaf.cell : Leaf → Cell
  | .sc v => .sc v
  | .ints k L => .ints k L

/-! ### How real values hold abstract ones -/

/-- Block b is there, and is none of those that are tracked. -/
def Fr (w : World) (ρ : Nm → Nat) (S : Store) (b : Nat) : Prop := b < w.heap.size ∧ ∀ m o, S m = some o → o.real = true → ρ m ≠ b

def IntsS (w : World) (F : Nat → Prop) (k : IntKind) (L : List Int) (n : Nat) (v : Value) : Prop :=
  ∃ A cap, v = .slice A n cap ∧ n ≤ L.length ∧ L.length ≤ cap ∧ (0 < L.length → ∃ b off, A = some ⟨b, off, none⟩ ∧ F b ∧ ∀ i x, L[i]? = some x → w.cell? ⟨b, off + i, none⟩ = some (.int k x))

def LeafS (w : World) (F : Nat → Prop) : Leaf → Value → Prop
  | .sc c, v => v = c ∧ c.oneCell' = true
  | .ints k L, v => IntsS w F k L L.length v

/-- Block b is a row of n cells of type ty, none of them frozen. -/
def SzX (w : World) (b : Nat) (ty : TypeId) (n : Nat) : Prop := ∃ vs, w.heap[b]? = some (.cells vs ty (0, 0)) ∧ vs.size = n
def SizeAt (w : World) (b : Nat) (n : Nat) : Prop := ∃ ty q, SzX w b ty q ∧ n ≤ q

def CellS (w : World) (ρ : Nm → Nat) (S : Store) : Cell → Value → Prop
  | .sc c, v => v = c
  | .ints k L, v => IntsS w (Fr w ρ S) k L L.length v
  | .intc k L n, v => IntsS w (Fr w ρ S) k L n v
  | .seq sz L, v => ∃ A cap, v = .slice A L.length cap ∧ L.length ≤ cap ∧ (∀ c ∈ L, c.length = sz) ∧ (0 < L.length → ∃ b off, A = some ⟨b, off, none⟩ ∧ Fr w ρ S b ∧
      ∀ i c j x, L[i]? = some c → c[j]? = some x → ∃ u, w.cell? ⟨b, off + (i * sz + j), none⟩ = some u ∧ LeafS w (Fr w ρ S) x u)
  | .win m off len cmin, v => (∃ o, S m = some o ∧ o.isAcc = false) ∧ ∃ A cap, v = .slice A len cap ∧ len ≤ cmin ∧ cmin ≤ cap ∧ (0 < cap → A = some ⟨ρ m, off, none⟩ ∧ SizeAt w (ρ m) (off + cap))
  | .ptr m off, v => (∃ o, S m = some o ∧ o.isAcc = false) ∧ v = .pointer (some ⟨ρ m, off, none⟩)
  | .pim cs, v => ∃ b off, v = .pointer (some ⟨b, off, none⟩) ∧ Fr w ρ S b ∧ ∀ j x, cs[j]? = some x → ∃ u, w.cell? ⟨b, off + j, none⟩ = some u ∧ LeafS w (Fr w ρ S) x u
  | .junk, _ => True

def CellsS (w : World) (ρ : Nm → Nat) (S : Store) (cs : List Cell) (vs : List Value) : Prop :=
  cs.length = vs.length ∧ ∀ (i : Nat) (x : Cell), cs[i]? = some x → ∃ u, vs[i]? = some u ∧ u.oneCell' = true ∧ CellS w ρ S x u

def VS1 (w : World) (ρ : Nm → Nat) (S : Store) : AVal → Value → Prop
  | .c x, v => CellS w ρ S x v
  | .agg cs, v => ∃ vs, v = .agg vs ∧ CellsS w ρ S cs vs.toList
  | .fn f caps, v => ∃ vs, v = .func (.func f) #[] vs ∧ CellsS w ρ S caps vs.toList
  | .tup _, _ => False
  | .accv _, _ => False

def VS (w : World) (ρ : Nm → Nat) (S : Store) : AVal → Value → Prop
  | .tup xs, v => ∃ vs, v = .tuple vs ∧ xs.length = vs.size ∧ ∀ (i : Nat) (x : AVal), xs[i]? = some x → ∃ u, vs[i]? = some u ∧ VS1 w ρ S x u
  | .accv m, v => ∃ ty k L, S m = some (.acc ty k L) ∧ ((L = [] ∧ ∃ A, v = .slice A 0 0) ∨ (L ≠ [] ∧ ∃ cap, v = .slice (some ⟨ρ m, 0, none⟩) L.length cap ∧ L.length ≤ cap ∧ cap ≤ maxLen ∧ SzX w (ρ m) ty cap))
  | x, v => VS1 w ρ S x v

def RowS (w : World) (b : Nat) (ty : TypeId) (k : IntKind) (L : List Int) : Prop :=
  ∃ vs, w.heap[b]? = some (.cells vs ty (0, 0)) ∧ ∀ (i : Nat) (x : Int), L[i]? = some x → vs[i]? = some (Value.int k x)

def ObjS (w : World) (ρ : Nm → Nat) (S : Store) (b : Nat) : AObj → Prop
  | .cells ty cs => ∃ vs, w.heap[b]? = some (.cells vs ty (0, 0)) ∧ ∀ (i : Nat) (x : Cell), cs[i]? = some x → ∃ u, vs[i]? = some u ∧ u.oneCell' = true ∧ CellS w ρ S x u
  | .ints ty k L => RowS w b ty k L
  | .acc ty k L => L = [] ∨ RowS w b ty k L

structure Sim (w : World) (ρ : Nm → Nat) (st : St) (tm : Array Value) : Prop where
  inj : ∀ m m' o o', st.sg m = some o → st.sg m' = some o' → o.real = true → o'.real = true → ρ m = ρ m' → m = m'
  obj : ∀ m o, st.sg m = some o → ObjS w ρ st.sg (ρ m) o
  fr : ∀ t, VS w ρ st.sg (st.fr t) (tm.getD t undef)

/-- From world w (names ρ, store S) to w' (ρ', S'): what is not tracked stays; what is tracked stays where it is, but for the names X. -/
structure Ext (X : Nm → Prop) (w : World) (ρ : Nm → Nat) (S : Store) (w' : World) (ρ' : Nm → Nat) (S' : Store) : Prop where
  os : w'.os = w.os
  tape : w'.tape = w.tape
  output : w'.output = w.output
  size : w.heap.size ≤ w'.heap.size
  old : ∀ b, b < w.heap.size → (∀ m o, S m = some o → o.real = true → ρ m ≠ b) → w'.heap[b]? = w.heap[b]?
  nms : ∀ m o', S' m = some o' → o'.real = true → (∃ o, S m = some o ∧ o.real = true ∧ ρ' m = ρ m) ∨ w.heap.size ≤ ρ' m
  kp : ∀ m o, S m = some o → o.isAcc = false → ∃ o', S' m = some o' ∧ o'.isAcc = false ∧ ρ' m = ρ m
  szs : ∀ m o, ¬ X m → S m = some o → o.real = true → ∀ ty n, SzX w (ρ m) ty n → SzX w' (ρ m) ty n
  acc : ∀ m ty k L, ¬ X m → S m = some (.acc ty k L) → S' m = some (.acc ty k L) ∧ (L ≠ [] → ρ' m = ρ m)
  nx : ∀ m, X m → ∀ o, S m = some o → o.isAcc = true

def Cell.at (m : Nm) : Cell → Prop
  | .win n .. => n = m
  | .ptr n _ => n = m
  | _ => False
def AVal.at1 (m : Nm) : AVal → Prop
  | .c x => x.at m
  | .agg cs => ∃ x ∈ cs, x.at m
  | .fn _ cs => ∃ x ∈ cs, x.at m
  | .accv n => n = m
  | .tup _ => False
def AVal.at (m : Nm) : AVal → Prop
  | .tup xs => ∃ x ∈ xs, x.at1 m
  | x => x.at1 m

section
variable {X : Nm → Prop} {w w' : World} {ρ ρ' : Nm → Nat} {S S' : Store}

theorem Ext.fr (h : Ext X w ρ S w' ρ' S') {b : Nat} (hb : Fr w ρ S b) : Fr w' ρ' S' b := by
  refine ⟨Nat.lt_of_lt_of_le hb.1 h.size, fun m o hm ho he => ?_⟩
  rcases h.nms m o hm ho with ⟨o1, h1, h2, h3⟩ | h1
  · exact hb.2 m o1 h1 h2 (by rw [← h3, he])
  · have := hb.1; omega

theorem Ext.cell (h : Ext X w ρ S w' ρ' S') {b : Nat} (hb : Fr w ρ S b) (o : Nat) : w'.cell? ⟨b, o, none⟩ = w.cell? ⟨b, o, none⟩ := by
  have := h.old b hb.1 hb.2
  simp [World.cell?, this]

theorem IntsS.ext (h : Ext X w ρ S w' ρ' S') {k : IntKind} {L : List Int} {n : Nat} {v : Value} (hv : IntsS w (Fr w ρ S) k L n v) : IntsS w' (Fr w' ρ' S') k L n v := by
  obtain ⟨A, cap, e, h1, h2, h3⟩ := hv
  refine ⟨A, cap, e, h1, h2, fun hl => ?_⟩
  obtain ⟨b, off, e2, hf, hc⟩ := h3 hl
  exact ⟨b, off, e2, h.fr hf, fun i x hx => by rw [h.cell hf]; exact hc i x hx⟩

theorem LeafS.ext (h : Ext X w ρ S w' ρ' S') {x : Leaf} {v : Value} (hv : LeafS w (Fr w ρ S) x v) : LeafS w' (Fr w' ρ' S') x v := by
  cases x with
  | sc c => exact hv
  | ints k L => exact IntsS.ext h hv

theorem CellS.ext (h : Ext X w ρ S w' ρ' S') {x : Cell} {v : Value} (hv : CellS w ρ S x v) : CellS w' ρ' S' x v := by
  cases x with
  | sc c => exact hv
  | ints k L => exact IntsS.ext h hv
  | intc k L n => exact IntsS.ext h hv
  | seq sz L =>
    obtain ⟨A, cap, e, h1, h2, h3⟩ := hv
    refine ⟨A, cap, e, h1, h2, fun hl => ?_⟩
    obtain ⟨b, off, e2, hf, hc⟩ := h3 hl
    refine ⟨b, off, e2, h.fr hf, fun i c j x hi hj => ?_⟩
    obtain ⟨u, hu, hs⟩ := hc i c j x hi hj
    exact ⟨u, by rw [h.cell hf]; exact hu, hs.ext h⟩
  | win m off len cmin =>
    obtain ⟨⟨o, ho, hr⟩, A, cap, e, h1, h2, h3⟩ := hv
    have hX : ¬ X m := fun hX => by rw [h.nx m hX o ho] at hr; cases hr
    obtain ⟨o', ho', hr', hq⟩ := h.kp m o ho hr
    refine ⟨⟨o', ho', hr'⟩, A, cap, e, h1, h2, fun hl => ?_⟩
    rw [hq]
    obtain ⟨e1, ty, q, e2, e3⟩ := h3 hl
    exact ⟨e1, ty, q, h.szs m o hX ho (AObj.real_of hr) _ _ e2, e3⟩
  | ptr m off =>
    obtain ⟨⟨o, ho, hr⟩, e⟩ := hv
    obtain ⟨o', ho', hr', hq⟩ := h.kp m o ho hr
    exact ⟨⟨o', ho', hr'⟩, by rw [hq]; exact e⟩
  | pim cs =>
    obtain ⟨b, off, e, hf, hc⟩ := hv
    refine ⟨b, off, e, h.fr hf, fun j x hj => ?_⟩
    obtain ⟨u, hu, hs⟩ := hc j x hj
    exact ⟨u, by rw [h.cell hf]; exact hu, hs.ext h⟩
  | junk => trivial

theorem CellsS.ext (h : Ext X w ρ S w' ρ' S') {cs : List Cell} {vs : List Value} (hv : CellsS w ρ S cs vs) : CellsS w' ρ' S' cs vs :=
  ⟨hv.1, fun i x hi => by
    obtain ⟨u, h1, h2, h3⟩ := hv.2 i x hi
    exact ⟨u, h1, h2, h3.ext h⟩⟩

theorem VS1.ext (h : Ext X w ρ S w' ρ' S') {x : AVal} {v : Value} (hv : VS1 w ρ S x v) : VS1 w' ρ' S' x v := by
  cases x with
  | c x => exact CellS.ext h hv
  | agg cs => obtain ⟨vs, e, h1⟩ := hv; exact ⟨vs, e, h1.ext h⟩
  | fn f cs => obtain ⟨vs, e, h1⟩ := hv; exact ⟨vs, e, h1.ext h⟩
  | accv m => exact hv
  | tup xs => exact hv

theorem VS.ext (h : Ext X w ρ S w' ρ' S') {x : AVal} {v : Value} (hx : ∀ m, X m → x ≠ .accv m) (hv : VS w ρ S x v) : VS w' ρ' S' x v := by
  cases x with
  | c x => exact VS1.ext (x := .c x) h hv
  | agg cs => exact VS1.ext (x := .agg cs) h hv
  | fn f cs => exact VS1.ext (x := .fn f cs) h hv
  | accv m =>
    obtain ⟨ty, k, L, ho, h1⟩ := hv
    have hX : ¬ X m := fun hX => hx m hX rfl
    obtain ⟨ha, hq⟩ := h.acc m ty k L hX ho
    refine ⟨ty, k, L, ha, ?_⟩
    rcases h1 with h1 | ⟨hl, cap, e, h2, h2', h3⟩
    · exact .inl h1
    · have hr : (AObj.acc ty k L).real = true := by cases L with | nil => exact absurd rfl hl | cons a l => rfl
      exact .inr ⟨hl, cap, by rw [hq hl]; exact e, h2, h2', by rw [hq hl]; exact h.szs m _ hX ho hr _ _ h3⟩
  | tup xs =>
    obtain ⟨vs, e, hl, h1⟩ := hv
    refine ⟨vs, e, hl, fun i x hi => ?_⟩
    obtain ⟨u, h2, h3⟩ := h1 i x hi
    exact ⟨u, h2, h3.ext h⟩

theorem Ext.refl (w : World) (ρ : Nm → Nat) (S : Store) : Ext (fun _ => False) w ρ S w ρ S :=
  ⟨rfl, rfl, rfl, Nat.le_refl _, fun _ _ _ => rfl, fun _ o h hr => .inl ⟨o, h, hr, rfl⟩, fun _ o h hr => ⟨o, h, hr, rfl⟩, fun _ _ _ _ _ _ _ h => h, fun _ _ _ _ _ h => ⟨h, fun _ => rfl⟩, fun _ h => h.elim⟩

theorem Ext.trans {Y : Nm → Prop} {w'' : World} {ρ'' : Nm → Nat} {S'' : Store} (h : Ext X w ρ S w' ρ' S') (k : Ext Y w' ρ' S' w'' ρ'' S'') (hY : ∀ m o, S m = some o → Y m → X m) : Ext X w ρ S w'' ρ'' S'' where
  os := k.os.trans h.os
  tape := k.tape.trans h.tape
  output := k.output.trans h.output
  size := Nat.le_trans h.size k.size
  old b hb hn := by
    rw [k.old b (Nat.lt_of_lt_of_le hb h.size), h.old b hb hn]
    exact (h.fr ⟨hb, hn⟩).2
  nms m o' hm hr := by
    rcases k.nms m o' hm hr with ⟨o1, h1, h2, h3⟩ | h1
    · rcases h.nms m o1 h1 h2 with ⟨o2, h4, h5, h6⟩ | h4
      · exact .inl ⟨o2, h4, h5, h3.trans h6⟩
      · exact .inr (by rw [h3]; exact h4)
    · exact .inr (Nat.le_trans h.size h1)
  kp m o hm hr := by
    obtain ⟨o', h1, h2, h3⟩ := h.kp m o hm hr
    obtain ⟨o'', h4, h5, h6⟩ := k.kp m o' h1 h2
    exact ⟨o'', h4, h5, h6.trans h3⟩
  szs m o hX hm hr ty n hn := by
    have hXY : ¬ Y m := fun hy => hX (hY m o hm hy)
    cases o with
    | acc t kk L =>
      cases L with
      | nil => cases hr
      | cons a l =>
        obtain ⟨h1, h2⟩ := h.acc m t kk _ hX hm
        have h3 := h2 (by simp)
        have := k.szs m _ hXY h1 rfl ty n (by rw [h3]; exact h.szs m _ hX hm hr ty n hn)
        rw [h3] at this; exact this
    | cells t cs =>
      obtain ⟨o', h1, h2, h3⟩ := h.kp m _ hm rfl
      have := k.szs m o' hXY h1 (AObj.real_of h2) ty n (by rw [h3]; exact h.szs m _ hX hm hr ty n hn)
      rw [h3] at this; exact this
    | ints t kk L =>
      obtain ⟨o', h1, h2, h3⟩ := h.kp m _ hm rfl
      have := k.szs m o' hXY h1 (AObj.real_of h2) ty n (by rw [h3]; exact h.szs m _ hX hm hr ty n hn)
      rw [h3] at this; exact this
  acc m ty kk L hX hm := by
    obtain ⟨h1, h2⟩ := h.acc m ty kk L hX hm
    obtain ⟨h3, h4⟩ := k.acc m ty kk L (fun hy => hX (hY m _ hm hy)) h1
    exact ⟨h3, fun hl => (h4 hl).trans (h2 hl)⟩
  nx := h.nx
end
end Go.Abs

/-
  Names turned: a state seen through other names; states that say less.
-/
namespace Go.Abs
open Go

def Cell.map (φ : Nm → Nm) : Cell → Cell
  | .win m o l c => .win (φ m) o l c
  | .ptr m o => .ptr (φ m) o
  | x => x
def AVal.map1 (φ : Nm → Nm) : AVal → AVal
  | .c x => .c (x.map φ)
  | .agg cs => .agg (cs.map (·.map φ))
  | .fn f cs => .fn f (cs.map (·.map φ))
  | .accv m => .accv (φ m)
  | .tup xs => .tup xs
def AVal.map (φ : Nm → Nm) : AVal → AVal
  | .tup xs => .tup (xs.map (·.map1 φ))
  | x => x.map1 φ
def AObj.map (φ : Nm → Nm) : AObj → AObj
  | .cells ty cs => .cells ty (cs.map (·.map φ))
  | .ints ty k L => .ints ty k L
  | .acc ty k L => .acc ty k L

theorem AObj.real_map (φ : Nm → Nm) (o : AObj) : (o.map φ).real = o.real := by cases o <;> rfl
theorem AObj.acc_map (φ : Nm → Nm) (o : AObj) : (o.map φ).isAcc = o.isAcc := by cases o <;> rfl

/-- x mentions only what S has. -/
def Cell.cl (S : Store) (x : Cell) : Prop := ∀ m, x.at m → S m ≠ none
def AVal.cl (S : Store) (x : AVal) : Prop := ∀ m, x.at m → S m ≠ none
def AObj.cl (S : Store) : AObj → Prop
  | .cells _ cs => ∀ x ∈ cs, x.cl S
  | _ => True

/-- S' is S, seen through the names φ: names may be lost, none is new. -/
structure Back (φ : Nm → Nm) (S S' : Store) : Prop where
  inj : ∀ m n, S' m ≠ none → S' n ≠ none → φ m = φ n → m = n
  at_ : ∀ m o, S' m = some o → S (φ m) = some (o.map φ)
  cl : ∀ m o, S' m = some o → o.cl S'

section
variable {φ : Nm → Nm} {w : World} {ρ : Nm → Nat} {S S' : Store}

theorem Back.fr (h : Back φ S S') {b : Nat} (hb : Fr w ρ S b) : Fr w (fun m => ρ (φ m)) S' b :=
  ⟨hb.1, fun m o hm hr => hb.2 (φ m) _ (h.at_ m o hm) (by rw [AObj.real_map]; exact hr)⟩

theorem Back.intsS (h : Back φ S S') {k : IntKind} {L : List Int} {n : Nat} {v : Value} (hv : IntsS w (Fr w ρ S) k L n v) : IntsS w (Fr w (fun m => ρ (φ m)) S') k L n v := by
  obtain ⟨A, cap, e, h1, h2, h3⟩ := hv
  refine ⟨A, cap, e, h1, h2, fun hl => ?_⟩
  obtain ⟨b, off, e2, hf, hc⟩ := h3 hl
  exact ⟨b, off, e2, h.fr hf, hc⟩

theorem Back.leafS (h : Back φ S S') {x : Leaf} {v : Value} (hv : LeafS w (Fr w ρ S) x v) : LeafS w (Fr w (fun m => ρ (φ m)) S') x v := by
  cases x with
  | sc c => exact hv
  | ints k L => exact h.intsS hv

theorem Back.get (h : Back φ S S') {m : Nm} (hm : S' m ≠ none) : ∃ o, S' m = some o ∧ S (φ m) = some (o.map φ) := by
  cases e : S' m with
  | none => exact absurd e hm
  | some o => exact ⟨o, rfl, h.at_ m o e⟩

theorem Back.cellS (h : Back φ S S') {x : Cell} {v : Value} (hc : x.cl S') (hv : CellS w ρ S (x.map φ) v) : CellS w (fun m => ρ (φ m)) S' x v := by
  cases x with
  | sc c => exact hv
  | ints k L => exact h.intsS hv
  | intc k L n => exact h.intsS hv
  | seq sz L =>
    obtain ⟨A, cap, e, h1, h2, h3⟩ := hv
    refine ⟨A, cap, e, h1, h2, fun hl => ?_⟩
    obtain ⟨b, off, e2, hf, hcc⟩ := h3 hl
    refine ⟨b, off, e2, h.fr hf, fun i c j x hi hj => ?_⟩
    obtain ⟨u, hu, hs⟩ := hcc i c j x hi hj
    exact ⟨u, hu, h.leafS hs⟩
  | win m off len cmin =>
    obtain ⟨o', e1, e2⟩ := h.get (hc m rfl)
    obtain ⟨⟨o, ho, hr⟩, A, cap, e, h1, h2, h3⟩ := hv
    rw [e2] at ho
    obtain rfl := Option.some.inj ho
    exact ⟨⟨o', e1, by rw [AObj.acc_map] at hr; exact hr⟩, A, cap, e, h1, h2, h3⟩
  | ptr m off =>
    obtain ⟨o', e1, e2⟩ := h.get (hc m rfl)
    obtain ⟨⟨o, ho, hr⟩, e⟩ := hv
    rw [e2] at ho
    obtain rfl := Option.some.inj ho
    exact ⟨⟨o', e1, by rw [AObj.acc_map] at hr; exact hr⟩, e⟩
  | pim cs =>
    obtain ⟨b, off, e, hf, hcc⟩ := hv
    refine ⟨b, off, e, h.fr hf, fun j x hj => ?_⟩
    obtain ⟨u, hu, hs⟩ := hcc j x hj
    exact ⟨u, hu, h.leafS hs⟩
  | junk => trivial

theorem Back.cellsS (h : Back φ S S') {cs : List Cell} {vs : List Value} (hc : ∀ x ∈ cs, x.cl S') (hv : CellsS w ρ S (cs.map (·.map φ)) vs) : CellsS w (fun m => ρ (φ m)) S' cs vs := by
  refine ⟨by simpa using hv.1, fun i x hi => ?_⟩
  obtain ⟨u, h1, h2, h3⟩ := hv.2 i (x.map φ) (by simp [hi])
  exact ⟨u, h1, h2, h.cellS (hc x (List.mem_of_getElem? hi)) h3⟩

theorem Back.vs1 (h : Back φ S S') {x : AVal} {v : Value} (hc : ∀ m, x.at1 m → S' m ≠ none) (hv : VS1 w ρ S (x.map1 φ) v) : VS1 w (fun m => ρ (φ m)) S' x v := by
  cases x with
  | c x => exact h.cellS hc hv
  | agg cs => obtain ⟨vs, e, h1⟩ := hv; exact ⟨vs, e, h.cellsS (fun x hx m hm => hc m ⟨x, hx, hm⟩) h1⟩
  | fn f cs => obtain ⟨vs, e, h1⟩ := hv; exact ⟨vs, e, h.cellsS (fun x hx m hm => hc m ⟨x, hx, hm⟩) h1⟩
  | accv m => exact hv
  | tup xs => exact hv

theorem Back.vs (h : Back φ S S') {x : AVal} {v : Value} (hc : x.cl S') (hv : VS w ρ S (x.map φ) v) : VS w (fun m => ρ (φ m)) S' x v := by
  cases x with
  | c x => exact h.vs1 (x := .c x) hc hv
  | agg cs => exact h.vs1 (x := .agg cs) hc hv
  | fn f cs => exact h.vs1 (x := .fn f cs) hc hv
  | accv m =>
    obtain ⟨o', e1, e2⟩ := h.get (hc m rfl)
    obtain ⟨ty, k, L, ho, h1⟩ := hv
    rw [e2] at ho
    have ho' : o' = .acc ty k L := by
      cases o' <;> simp [AObj.map] at ho
      obtain ⟨rfl, rfl, rfl⟩ := ho; rfl
    subst ho'
    exact ⟨ty, k, L, e1, h1⟩
  | tup xs =>
    obtain ⟨vs, e, hl, h1⟩ := hv
    refine ⟨vs, e, by simpa using hl, fun i x hi => ?_⟩
    obtain ⟨u, h2, h3⟩ := h1 i (x.map1 φ) (by simp [hi])
    exact ⟨u, h2, h.vs1 (fun m hm => hc m ⟨x, List.mem_of_getElem? hi, hm⟩) h3⟩

theorem Back.objS (h : Back φ S S') {o : AObj} {b : Nat} (hc : o.cl S') (hv : ObjS w ρ S b (o.map φ)) : ObjS w (fun m => ρ (φ m)) S' b o := by
  cases o with
  | cells ty cs =>
    obtain ⟨vs, e, h1⟩ := hv
    refine ⟨vs, e, fun i x hi => ?_⟩
    obtain ⟨u, h2, h3, h4⟩ := h1 i (x.map φ) (by simp [hi])
    exact ⟨u, h2, h3, h.cellS (hc x (List.mem_of_getElem? hi)) h4⟩
  | ints ty k L => exact hv
  | acc ty k L => exact hv
end

structure EnvS (w : World) (ρ : Nm → Nat) (S : Store) : Prop where
  inj : ∀ m m' o o', S m = some o → S m' = some o' → o.real = true → o'.real = true → ρ m = ρ m' → m = m'
  obj : ∀ m o, S m = some o → ObjS w ρ S (ρ m) o

theorem Back.env {φ : Nm → Nm} {w : World} {ρ : Nm → Nat} {S S' : Store} (h : Back φ S S') (e : EnvS w ρ S) : EnvS w (fun m => ρ (φ m)) S' where
  inj m m' o o' hm hm' hr hr' he :=
    h.inj m m' (by simp [hm]) (by simp [hm']) (e.inj _ _ _ _ (h.at_ m o hm) (h.at_ m' o' hm') (by rw [AObj.real_map]; exact hr) (by rw [AObj.real_map]; exact hr') he)
  obj m o hm := h.objS (h.cl m o hm) (e.obj _ _ (h.at_ m o hm))

theorem Sim.env {w : World} {ρ : Nm → Nat} {st : St} {tm : Array Value} (h : Sim w ρ st tm) : EnvS w ρ st.sg := ⟨h.inj, h.obj⟩

def Nm.isOut : Nm → Bool
  | .out _ => true
  | _ => false

/-- Whatever stands as st says stands as F says. -/
def Weak (st F : St) : Prop := ∀ w ρ tm, Sim w ρ st tm → ∃ ρ', Sim w ρ' F tm ∧
  (∀ m o, F.sg m = some o → o.real = true → ∃ m' o', st.sg m' = some o' ∧ o'.real = true ∧ ρ' m = ρ m' ∧ (m'.isOut = true → m' = m)) ∧
  (∀ m, m.isOut = true → F.sg m = st.sg m ∧ ρ' m = ρ m)

theorem Weak.refl (st : St) : Weak st st := fun _ ρ _ h => ⟨ρ, h, fun m o hm hr => ⟨m, o, hm, hr, rfl, fun _ => rfl⟩, fun _ _ => ⟨rfl, rfl⟩⟩

theorem Weak.trans {a b c : St} (h : Weak a b) (k : Weak b c) : Weak a c := fun w ρ tm hs => by
  obtain ⟨ρ1, h1, h2, h3⟩ := h w ρ tm hs
  obtain ⟨ρ2, k1, k2, k3⟩ := k w ρ1 tm h1
  refine ⟨ρ2, k1, fun m o hm hr => ?_, fun m hm => ⟨(k3 m hm).1.trans (h3 m hm).1, (k3 m hm).2.trans (h3 m hm).2⟩⟩
  obtain ⟨m1, o1, e1, r1, q1, i1⟩ := k2 m o hm hr
  obtain ⟨m2, o2, e2, r2, q2, i2⟩ := h2 m1 o1 e1 r1
  refine ⟨m2, o2, e2, r2, q1.trans q2, fun hi => ?_⟩
  have e3 := i2 hi
  subst e3
  exact i1 hi

/-- What the state says after some names have been dropped, slots forgotten, names changed. -/
theorem Weak.back {st F : St} (φ : Nm → Nm) (h : Back φ st.sg F.sg) (hout : ∀ m, φ (.out m) = .out m) (hout2 : ∀ m, F.sg m ≠ none → (φ m).isOut = true → φ m = m)
    (hkeep : ∀ m, F.sg (.out m) = st.sg (.out m)) (hfr : ∀ t, F.fr t = .c .junk ∨ ((F.fr t).cl F.sg ∧ st.fr t = (F.fr t).map φ)) : Weak st F := fun w ρ tm hs => by
  refine ⟨fun m => ρ (φ m), ⟨(h.env hs.env).inj, (h.env hs.env).obj, fun t => ?_⟩, fun m o hm hr => ⟨φ m, _, h.at_ m o hm, by rw [AObj.real_map]; exact hr, rfl, fun hi => hout2 m (by simp [hm]) hi⟩, fun m hm => ?_⟩
  · rcases hfr t with e | ⟨hc, e⟩
    · rw [e]; trivial
    · have := hs.fr t
      rw [e] at this
      exact h.vs hc this
  · cases m <;> simp [Nm.isOut] at hm
    rename_i m
    exact ⟨hkeep m, by show ρ (φ (.out m)) = _; rw [hout]⟩

theorem Cell.map_id (x : Cell) : x.map id = x := by cases x <;> rfl
theorem AVal.map1_id (x : AVal) : x.map1 id = x := by cases x <;> simp [AVal.map1, Cell.map_id]
theorem AVal.map_id (x : AVal) : x.map id = x := by
  cases x with
  | tup xs => simp [AVal.map, AVal.map1_id]
  | c x => simp [AVal.map, AVal.map1, Cell.map_id]
  | agg x => simp [AVal.map, AVal.map1, Cell.map_id]
  | fn f x => simp [AVal.map, AVal.map1, Cell.map_id]
  | accv m => rfl
theorem AObj.map_id (x : AObj) : x.map id = x := by cases x <;> simp [AObj.map, Cell.map_id]

/-- Slots are forgotten, names dropped; no name turned. -/
theorem Weak.drop {st F : St} (hsg : ∀ m o, F.sg m = some o → st.sg m = some o ∧ o.cl F.sg)
    (hkeep : ∀ m, F.sg (.out m) = st.sg (.out m)) (hfr : ∀ t, F.fr t = .c .junk ∨ ((F.fr t).cl F.sg ∧ st.fr t = F.fr t)) : Weak st F :=
  Weak.back id ⟨fun _ _ _ _ h => h, fun m o hm => by rw [AObj.map_id]; exact (hsg m o hm).1, fun m o hm => (hsg m o hm).2⟩ (fun _ => rfl) (fun _ _ _ => rfl) hkeep
    (fun t => (hfr t).imp (fun h => h) (fun h => ⟨h.1, by rw [AVal.map_id]; exact h.2⟩))
end Go.Abs

/-
  What an operation does to an abstract state: plain operations.
-/
namespace Go.Abs
open Go

abbrev ivl (k : IntKind) (n : Int) : AVal := .c (.sc (.int k n))
abbrev bvl (b : Bool) : AVal := .c (.sc (.bool b))
abbrev nils : AVal := .c (.sc (.slice none 0 0))

def aggT (P : Program) (t : TypeId) : Option Bool := (P.underlying t).map fun | .struct _ | .array _ _ => true | _ => false

def intE (op : BinOp) (k : IntKind) (a b : Int) (v : AVal) : Prop :=
  match op with
  | .add => v = ivl k (k.wrap (a + b))
  | .sub => v = ivl k (k.wrap (a - b))
  | .mul => v = ivl k (k.wrap (a * b))
  | .quo => b ≠ 0 ∧ v = ivl k (k.wrap (a.tdiv b))
  | .rem => b ≠ 0 ∧ v = ivl k (a.tmod b)
  | .and => v = ivl k (k.wrap (BitVec.ofInt k.bits a &&& BitVec.ofInt k.bits b).toNat)
  | .or => v = ivl k (k.wrap (BitVec.ofInt k.bits a ||| BitVec.ofInt k.bits b).toNat)
  | .xor => v = ivl k (k.wrap (BitVec.ofInt k.bits a ^^^ BitVec.ofInt k.bits b).toNat)
  | .andNot => v = ivl k (k.wrap (BitVec.ofInt k.bits a &&& ~~~BitVec.ofInt k.bits b).toNat)
  | .eql => v = bvl (a == b)
  | .neq => v = bvl (a != b)
  | .lss => v = bvl (a < b)
  | .leq => v = bvl (a ≤ b)
  | .gtr => v = bvl (a > b)
  | .geq => v = bvl (a ≥ b)
  | _ => False

def shiftE (op : BinOp) (k : IntKind) (a b : Int) (v : AVal) : Prop :=
  match op with
  | .shl => 0 ≤ b ∧ v = ivl k (k.wrap (a * 2 ^ (min b.toNat k.bits)))
  | .shr => 0 ≤ b ∧ v = ivl k (a.fdiv (2 ^ (min b.toNat k.bits)))
  | _ => False

def boolE (op : BinOp) (a b : Bool) (v : AVal) : Prop :=
  match op with
  | .eql => v = bvl (a == b)
  | .neq => v = bvl (a != b)
  | _ => False

def isShift : BinOp → Bool
  | .shl | .shr => true
  | _ => false

def binE (P : Program) (op : BinOp) (T : TypeId) (x y v : AVal) : Prop :=
  match x, y with
  | .c (.sc (.int k a)), .c (.sc (.int k' b)) => if isShift op then shiftE op k a b v else k = k' ∧ intE op k a b v
  | .c (.sc (.bool a)), .c (.sc (.bool b)) => P.underlying T = some .bool ∧ boolE op a b v
  | _, _ => False

def unE (op : UnOp) (x v : AVal) : Prop :=
  match op, x with
  | .neg, .c (.sc (.int k n)) => v = ivl k (k.wrap (0 - n))
  | .xor, .c (.sc (.int k n)) => v = ivl k (k.wrap (BitVec.ofInt k.bits (if k.signed then -1 else k.max) ^^^ BitVec.ofInt k.bits n).toNat)
  | .not, .c (.sc (.bool b)) => v = bvl (!b)
  | _, _ => False

def convE (P : Program) (src dst : TypeId) (x v : AVal) : Prop :=
  match x with
  | .c (.sc (.int _ n)) => P.underlying src ≠ none ∧ ∃ k, P.underlying dst = some (.int k) ∧ v = ivl k (k.wrap n)
  | _ => False

def fieldAddrE (P : Program) (s : TypeId) (x : AVal) (f : Nat) (v : AVal) : Prop :=
  ∃ fs fd, P.underlying s = some (.struct fs) ∧ fs[f]? = some fd ∧ P.cellsOf fd.type ≠ 0 ∧
    match x with
    | .c (.ptr m off) => v = .c (.ptr m (off + fd.offset))
    | .c (.pim cs) => v = .c (.pim (cs.drop fd.offset))
    | _ => False

def fieldE (P : Program) (s : TypeId) (x : AVal) (f : Nat) (v : AVal) : Prop :=
  ∃ fs fd, P.underlying s = some (.struct fs) ∧ fs[f]? = some fd ∧
    match x with
    | .agg cs => (aggT P fd.type = some true ∧ P.cellsOf fd.type ≠ 0 ∧ v = .agg ((cs.drop fd.offset).take (P.cellsOf fd.type))) ∨ (aggT P fd.type = some false ∧ ∃ y, cs[fd.offset]? = some y ∧ v = .c y)
    | _ => False

def indexE (P : Program) (t : TypeId) (x i v : AVal) : Prop :=
  ∃ e, P.underlying t = some (.slice e) ∧ P.cellsOf e ≠ 0 ∧
    match x, i with
    | .c (.ints k L), .c (.sc (.int _ j)) => P.cellsOf e = 1 ∧ 0 ≤ j ∧ j < L.length ∧ v = .c (.pim [.sc (.int k (L.getD j.toNat 0))])
    | .c (.intc k L n), .c (.sc (.int _ j)) => P.cellsOf e = 1 ∧ 0 ≤ j ∧ j < n ∧ v = .c (.pim [.sc (.int k (L.getD j.toNat 0))])
    | .c (.seq sz L), .c (.sc (.int _ j)) => P.cellsOf e = sz ∧ 0 ≤ j ∧ j < L.length ∧ v = .c (.pim (L.getD j.toNat []))
    | .c (.win m off len _), .c (.sc (.int _ j)) => 0 ≤ j ∧ j < len ∧ v = .c (.ptr m (off + j.toNat * P.cellsOf e))
    | _, _ => False

/-- The bounds of a slice expression of length n and room c: 'lo', 'hi' as they are given. -/
def bndE (r : Operand → AVal) (lo hi : Option Operand) (n c : Nat) (l h : Nat) : Prop :=
  (match lo with | none => l = 0 | some x => match r x with | .c (.sc (.int _ i)) => 0 ≤ i ∧ l = i.toNat | _ => False) ∧
  (match hi with | none => h = n | some x => match r x with | .c (.sc (.int _ i)) => 0 ≤ i ∧ h = i.toNat | _ => False) ∧ l ≤ h ∧ h ≤ c

def sliceE (P : Program) (r : Operand → AVal) (t : TypeId) (x : Operand) (lo hi mx : Option Operand) (v : AVal) : Prop :=
  mx = none ∧ ∃ e, P.underlying t = some (.slice e) ∧ P.cellsOf e ≠ 0 ∧
    match r x with
    | .c (.ints k L) => P.cellsOf e = 1 ∧ ∃ l h, bndE r lo hi L.length L.length l h ∧ v = .c (.ints k ((L.drop l).take (h - l)))
    | .c (.intc k L n) => P.cellsOf e = 1 ∧ ∃ l h, bndE r lo hi n L.length l h ∧ v = .c (.intc k (L.drop l) (h - l))
    | .c (.seq sz L) => P.cellsOf e = sz ∧ ∃ l h, bndE r lo hi L.length L.length l h ∧ v = .c (.seq sz ((L.drop l).take (h - l)))
    | .c (.win m off len cm) => ∃ l h, bndE r lo hi len cm l h ∧ v = .c (.win m (off + l * P.cellsOf e) (h - l) (cm - l)) ∧ (P.cellsOf e = 1)
    | .c (.sc (.slice none 0 0)) => ∃ l h, bndE r lo hi 0 0 l h ∧ v = nils
    | _ => False

def AVal.flat : AVal → Prop
  | .tup _ => False
  | _ => True

def extractE (x : AVal) (i : Nat) (v : AVal) : Prop :=
  match x with
  | .tup xs => xs[i]? = some v ∧ v.flat
  | _ => False

def AVal.cells : AVal → List Cell
  | .c x => [x]
  | .agg cs => cs
  | _ => []

/-- May be stored in cells. -/
def Cell.solid : Cell → Prop
  | .sc v => v.oneCell' = true
  | .junk => False
  | _ => True
def AVal.solid : AVal → Prop
  | .c x => x.solid
  | .agg _ => True
  | _ => False

def spl (cs : List Cell) (off : Nat) (xs : List Cell) : List Cell := cs.take off ++ xs ++ cs.drop (off + xs.length)

def fillE (place : Nat → Option (Nat × Nat)) (r : Operand → AVal) : List Cell → List (Nat × Operand) → List Cell → Prop
  | cs, [], out => out = cs
  | cs, (i, x) :: rest, out => ∃ off size, place i = some (off, size) ∧ (r x).solid ∧ (r x).cells.length = size ∧ off + size ≤ cs.length ∧ fillE place r (spl cs off (r x).cells) rest out

def placesOf (P : Program) (fs : Array Field) : Array (Nat × Nat) := fs.map fun f => (f.offset, P.cellsOf f.type)
def zeroOf (P : Program) (t : TypeId) : Option Value := (P.info? t).bind (·.zero)
def zeroCells (P : Program) (t : TypeId) : Option (List Cell) := (zeroOf P t).map fun z => z.cells.toList.map .sc

def buildE (P : Program) (r : Operand → AVal) (t : TypeId) (parts : Array (Nat × Operand)) (v : AVal) : Prop :=
  ∃ fs z out, P.underlying t = some (.struct fs) ∧ (∀ f ∈ fs, P.info? f.type ≠ none) ∧ zeroCells P t = some z ∧ (∀ x ∈ z, x.solid) ∧
    fillE (fun i => (placesOf P fs)[i]?) r z parts.toList out ∧ v = .agg out

def mkE (r : Operand → AVal) (f : FuncId) (captured : Array Operand) (v : AVal) : Prop :=
  ∃ cs, captured.toList.map r = cs.map AVal.c ∧ (∀ x ∈ cs, x.solid) ∧ v = .fn f cs

def lenE (P : Program) (t : TypeId) (x v : AVal) : Prop :=
  (∃ e, P.underlying t = some (.slice e)) ∧
    match x with
    | .c (.ints _ L) => v = ivl .i64 L.length
    | .c (.intc _ _ n) => v = ivl .i64 n
    | .c (.seq _ L) => v = ivl .i64 L.length
    | .c (.win _ _ n _) => v = ivl .i64 n
    | .c (.sc (.slice none 0 0)) => v = ivl .i64 0
    | _ => False

def minE (b : Builtin) (xs : List AVal) (v : AVal) : Prop :=
  match b, xs with
  | .min, [.c (.sc (.int k x)), .c (.sc (.int _ y))] => v = ivl k (if y < x then y else x)
  | .max, [.c (.sc (.int k x)), .c (.sc (.int _ y))] => v = ivl k (if x < y then y else x)
  | _, _ => False

def builtinE (P : Program) (r : Operand → AVal) (b : Builtin) (args : List Operand) (tys : List TypeId) (v : AVal) : Prop :=
  match b, args, tys with
  | .len, [x], [t] => lenE P t (r x) v
  | .min, args, _ => minE .min (args.map r) v
  | .max, args, _ => minE .max (args.map r) v
  | _, _, _ => False

/-- A byte of a text. -/
def sindE (P : Program) (t : TypeId) (x i v : AVal) : Prop :=
  P.underlying t = some .string ∧
    match x, i with
    | .c (.sc (.string s)), .c (.sc (.int _ j)) => 0 ≤ j ∧ ∃ b, s[j.toNat]? = some b ∧ v = ivl .u8 b.toNat
    | _, _ => False

def PE (P : Program) (r : Operand → AVal) (op : Op) (v : AVal) : Prop :=
  match op with
  | .move x => v = r x
  | .assign x => v = r x
  | .pick c a b => match r c with | .c (.sc (.bool t)) => v = if t then r a else r b | _ => False
  | .nilCheck x => match r x with | .c (.ptr _ _) => v = r x | .c (.pim _) => v = r x | .fn _ _ => v = r x | _ => False
  | .binOp op T x y _ => binE P op T (r x) (r y) v
  | .unOp op _ x => unE op (r x) v
  | .convert s d x => convE P s d (r x) v
  | .fieldAddr s x f => fieldAddrE P s (r x) f v
  | .field s x f => fieldE P s (r x) f v
  | .indexAddr t x i => indexE P t (r x) (r i) v
  | .slice t x lo hi mx => sliceE P r t x lo hi mx v
  | .index t x i => sindE P t (r x) (r i) v
  | .extract x i => extractE (r x) i v
  | .build t ps => buildE P r t ps v
  | .makeFunc g first cap => match g with | .func f => first = #[] ∧ mkE r f cap v | _ => False
  | .call c => match c.callee with | .builtin b => builtinE P r b c.args.toList c.argTypes.toList v | _ => False
  | _ => False
end Go.Abs

/-
  Plain operations, run.
-/
namespace Go.Abs
open Go

section
variable {P : Program} {w : World} {ρ : Nm → Nat} {S : Store}

theorem run_underlying' {t : TypeId} {d : TypeDesc} (h : P.underlying t = some d) (w : World) : (underlying t).run P w = .ok d w := by
  simp [underlying, h]
theorem run_sizeOf' {t : TypeId} (h : P.cellsOf t ≠ 0) (w : World) : (sizeOf t).run P w = .ok (P.cellsOf t) w := by
  unfold Program.cellsOf at *
  cases e : P.info? t with
  | none => simp [e] at h
  | some i => simp [sizeOf, typeInfo, e]
theorem run_sizeOf'' {t : TypeId} (h : P.info? t ≠ none) (w : World) : (sizeOf t).run P w = .ok (P.cellsOf t) w := by
  unfold Program.cellsOf at *
  cases e : P.info? t with
  | none => simp [e] at h
  | some i => simp [sizeOf, typeInfo, e]
theorem run_isAgg' {t : TypeId} {b : Bool} (h : aggT P t = some b) (w : World) : (isAgg t).run P w = .ok b w := by
  unfold aggT at h
  cases e : P.underlying t with
  | none => simp [e] at h
  | some d =>
    rw [e] at h
    simp only [Option.map_some, Option.some.injEq] at h
    simp only [isAgg, Sem.run_bind, run_underlying' e, Result.andThen_ok]
    cases d <;> simp_all

theorem vs_sc {a u : Value} (h : VS w ρ S (.c (.sc a)) u) : u = a := h

theorem run_equal_bool {T : TypeId} (hT : P.underlying T = some .bool) (p q : Bool) (w : World) : (Op.equal T (.bool p) (.bool q)).run P w = .ok (p == q) w := by
  have : ∀ d, (Op.equalIn (d + 1) T (.bool p) (.bool q)).run P w = .ok (p == q) w := fun d => by simp [Op.equalIn, run_underlying' hT]
  exact this 9999

theorem binE_run {op : BinOp} {T : TypeId} {x y : Operand} {xv yv v : AVal} {a b : Value} (hx : VS w ρ S xv a) (hy : VS w ρ S yv b) (h : binE P op T xv yv v) :
    ∃ u, (do eqGuard op T x y a b; binOp op T a b : Sem Value).run P w = .ok u w ∧ VS w ρ S v u := by
  unfold binE at h
  split at h
  · rename_i k p k' q
    have ha := vs_sc hx
    have hb := vs_sc hy
    subst ha; subst hb
    have eg : (eqGuard op T x y (.int k p) (.int k' q)).run P w = .ok () w := by cases op <;> rfl
    simp only [Sem.run_bind, eg, Result.andThen_ok]
    by_cases hs : isShift op = true
    · rw [if_pos hs] at h
      cases op <;> simp only [isShift, Bool.false_eq_true] at hs <;> (obtain ⟨h0, rfl⟩ := h; refine ⟨_, ?_, rfl⟩; simp [binOp, Op.shift, Int.not_lt.2 h0])
    · rw [if_neg hs] at h
      obtain ⟨rfl, h⟩ := h
      cases op <;> simp only [intE] at h <;> first
        | exact h.elim
        | (obtain ⟨h0, rfl⟩ := h; refine ⟨_, ?_, rfl⟩; simp [binOp, Op.intDiv, h0]; done)
        | (subst h; refine ⟨_, ?_, rfl⟩; simp [binOp, Op.intArith, Op.intBits, Op.intCmp]; done)
  · rename_i p q
    have ha := vs_sc hx
    have hb := vs_sc hy
    subst ha; subst hb
    have eg : (eqGuard op T x y (.bool p) (.bool q)).run P w = .ok () w := by cases op <;> rfl
    simp only [Sem.run_bind, eg, Result.andThen_ok]
    obtain ⟨hT, h⟩ := h
    cases op <;> simp only [boolE] at h <;> first
      | exact h.elim
      | (subst h; refine ⟨_, ?_, rfl⟩; simp only [binOp, Sem.run_bind, run_equal_bool hT, Result.andThen_ok, Sem.run_pure]; first | done | rfl)
  · exact h.elim

theorem unE_run {op : UnOp} {xv v : AVal} {a : Value} (hx : VS w ρ S xv a) (h : unE op xv v) :
    ∃ u, (Op.unary op a).run P w = .ok u w ∧ VS w ρ S v u := by
  unfold unE at h
  split at h <;> first
    | exact h.elim
    | (have ha := vs_sc hx; subst ha; subst h; refine ⟨_, ?_, rfl⟩; simp [Op.unary, Op.intArith, Op.intBits]; done)

theorem convE_run {s d : TypeId} {xv v : AVal} {a : Value} (hx : VS w ρ S xv a) (h : convE P s d xv v) :
    ∃ u, (convert s d a).run P w = .ok u w ∧ VS w ρ S v u := by
  unfold convE at h
  split at h
  · obtain ⟨h1, k, h2, rfl⟩ := h
    have ha := vs_sc hx
    subst ha
    cases e : P.underlying s with
    | none => exact absurd e h1
    | some ds => exact ⟨_, by simp [convert, run_underlying' e, run_underlying' h2, Conv.intToInt], rfl⟩
  · exact h.elim

theorem fieldAddrE_run {s : TypeId} {f : Nat} {xv v : AVal} {a : Value} (hx : VS w ρ S xv a) (h : fieldAddrE P s xv f v) :
    ∃ u, (Instr.fieldAt s a f).run P w = .ok u w ∧ VS w ρ S v u := by
  obtain ⟨fs, fd, h1, h2, h3, h4⟩ := h
  split at h4
  · subst h4
    obtain ⟨ho, rfl⟩ := hx
    refine ⟨_, ?_, ⟨ho, rfl⟩⟩
    simp only [Instr.fieldAt, Sem.run_bind, run_underlying' h1, Result.andThen_ok, h2, Instr.sureAddr, Sem.run_pure, fieldPlace, run_sizeOf' h3, Sem.run_ite, if_neg h3]
    unfold Addr.add
    split <;> simp_all
  · subst h4
    obtain ⟨b, off, rfl, hf, hc⟩ := hx
    refine ⟨.pointer (some ⟨b, off + fd.offset, none⟩), ?_, ⟨b, off + fd.offset, rfl, hf, fun j x hj => ?_⟩⟩
    · simp only [Instr.fieldAt, Sem.run_bind, run_underlying' h1, Result.andThen_ok, h2, Instr.sureAddr, Sem.run_pure, fieldPlace, run_sizeOf' h3, Sem.run_ite, if_neg h3]
      unfold Addr.add
      split <;> simp_all
    · rw [List.getElem?_drop] at hj
      obtain ⟨u, hu, hs⟩ := hc _ x hj
      exact ⟨u, by rw [Nat.add_assoc]; exact hu, hs⟩
  · exact h4.elim

theorem CellsS.drop {cs : List Cell} {vs : List Value} (h : CellsS w ρ S cs vs) (n : Nat) : CellsS w ρ S (cs.drop n) (vs.drop n) :=
  ⟨by simp [h.1], fun i x hi => by
    rw [List.getElem?_drop] at hi
    obtain ⟨u, h1, h2, h3⟩ := h.2 _ x hi
    exact ⟨u, by rw [List.getElem?_drop]; exact h1, h2, h3⟩⟩
theorem CellsS.take {cs : List Cell} {vs : List Value} (h : CellsS w ρ S cs vs) (n : Nat) : CellsS w ρ S (cs.take n) (vs.take n) :=
  ⟨by simp [h.1], fun i x hi => by
    have hlt : i < n := by
      rcases Nat.lt_or_ge i n with h | h
      · exact h
      · rw [List.getElem?_eq_none (by simp; omega)] at hi; cases hi
    rw [List.getElem?_take_of_lt hlt] at hi
    obtain ⟨u, h1, h2, h3⟩ := h.2 _ x hi
    exact ⟨u, by rw [List.getElem?_take_of_lt hlt]; exact h1, h2, h3⟩⟩

theorem fieldE_run {s : TypeId} {f : Nat} {xv v : AVal} {a : Value} (hx : VS w ρ S xv a) (h : fieldE P s xv f v) :
    ∃ u, (Instr.field s a f).run P w = .ok u w ∧ VS w ρ S v u := by
  obtain ⟨fs, fd, h1, h2, h4⟩ := h
  split at h4
  · obtain ⟨vs, rfl, hc⟩ := hx
    rcases h4 with ⟨ha, h3, rfl⟩ | ⟨ha, y, hy, rfl⟩
    · refine ⟨.agg (vs.extract fd.offset (fd.offset + P.cellsOf fd.type)), ?_, ⟨_, rfl, ?_⟩⟩
      · simp [Instr.field, run_underlying' h1, h2, asAgg, part, run_isAgg' ha, run_sizeOf' h3]
      · have := (hc.drop fd.offset).take (P.cellsOf fd.type)
        simpa [List.extract_eq_take_drop] using this
    · obtain ⟨u, hu, _, hs⟩ := hc.2 _ _ hy
      refine ⟨u, ?_, hs⟩
      have hu' : vs[fd.offset]? = some u := by simpa using hu
      simp [Instr.field, run_underlying' h1, h2, asAgg, part, run_isAgg' ha, hu']
  · exact h4.elim

theorem add_pl (b off n : Nat) : (⟨b, off, none⟩ : Addr).add n = ⟨b, off + n, none⟩ := by unfold Addr.add; split <;> simp_all

theorem indexE_run {t : TypeId} {xv iv v : AVal} {a i : Value} (hx : VS w ρ S xv a) (hi : VS w ρ S iv i) (h : indexE P t xv iv v) :
    ∃ u, (Instr.indexAt t a i).run P w = .ok u w ∧ VS w ρ S v u := by
  obtain ⟨e, h1, h2, h3⟩ := h
  split at h3
  · obtain ⟨h4, h5, h6, rfl⟩ := h3
    have := vs_sc hi
    subst this
    obtain ⟨A, cap, rfl, h7, h8, h9⟩ := hx
    rename_i k L k' j
    obtain ⟨b, off, rfl, hf, hc⟩ := h9 (by omega)
    refine ⟨.pointer (some ⟨b, off + j.toNat, none⟩), ?_, ⟨b, off + j.toNat, rfl, hf, fun q x hq => ?_⟩⟩
    · simp [Instr.indexAt, asIntOf, run_underlying' h1, run_sizeOf' h2, h5, h6, h4, add_pl]
    · match q, hq with
      | 0, hq =>
        simp only [List.getElem?_cons_zero, Option.some.injEq] at hq
        subst hq
        refine ⟨_, hc j.toNat _ (by rw [List.getD_eq_getElem?_getD, List.getElem?_eq_getElem (by omega)]; rfl), rfl, rfl⟩
  · obtain ⟨h4, h5, h6, rfl⟩ := h3
    have := vs_sc hi
    subst this
    obtain ⟨A, cap, rfl, h7, h8, h9⟩ := hx
    rename_i k L n k' j
    obtain ⟨b, off, rfl, hf, hc⟩ := h9 (by omega)
    refine ⟨.pointer (some ⟨b, off + j.toNat, none⟩), ?_, ⟨b, off + j.toNat, rfl, hf, fun q x hq => ?_⟩⟩
    · simp [Instr.indexAt, asIntOf, run_underlying' h1, run_sizeOf' h2, h5, h6, h4, add_pl]
    · match q, hq with
      | 0, hq =>
        simp only [List.getElem?_cons_zero, Option.some.injEq] at hq
        subst hq
        refine ⟨_, hc j.toNat _ (by rw [List.getD_eq_getElem?_getD, List.getElem?_eq_getElem (by omega)]; rfl), rfl, rfl⟩
  · obtain ⟨h4, h5, h6, rfl⟩ := h3
    have := vs_sc hi
    subst this
    obtain ⟨A, cap, rfl, h7, h8, h9⟩ := hx
    rename_i sz L k' j
    obtain ⟨b, off, rfl, hf, hc⟩ := h9 (by omega)
    have hlt : j.toNat < L.length := by omega
    refine ⟨.pointer (some ⟨b, off + j.toNat * sz, none⟩), ?_, ⟨b, off + j.toNat * sz, rfl, hf, fun q x hq => ?_⟩⟩
    · simp [Instr.indexAt, asIntOf, run_underlying' h1, run_sizeOf' h2, h5, h6, h4, add_pl]
    · rw [List.getD_eq_getElem?_getD, List.getElem?_eq_getElem hlt, Option.getD_some] at hq
      obtain ⟨u, hu, hs⟩ := hc j.toNat _ q x (List.getElem?_eq_getElem hlt) hq
      exact ⟨u, by rw [Nat.add_assoc]; exact hu, hs⟩
  · obtain ⟨h5, h6, rfl⟩ := h3
    have := vs_sc hi
    subst this
    obtain ⟨ho, A, cap, rfl, h7, h8, h9⟩ := hx
    rename_i m off len cm k' j
    obtain ⟨rfl, _⟩ := h9 (by omega)
    exact ⟨_, by simp [Instr.indexAt, asIntOf, run_underlying' h1, run_sizeOf' h2, h5, h6, add_pl], ho, rfl⟩
  · exact h3.elim

theorem extractE_run {xv v : AVal} {a : Value} {i : Nat} (hx : VS w ρ S xv a) (h : extractE xv i v) :
    ∃ u, (Instr.extract a i).run P w = .ok u w ∧ VS w ρ S v u := by
  unfold extractE at h
  split at h
  · obtain ⟨vs, rfl, hl, hc⟩ := hx
    obtain ⟨u, hu, hs⟩ := hc _ _ h.1
    refine ⟨u, by simp [Instr.extract, hu], ?_⟩
    cases v with
    | tup xs => exact hs.elim
    | accv m => exact hs.elim
    | _ => exact hs
  · exact h.elim

theorem lenE_run {t ty : TypeId} {xv v : AVal} {a : Value} (hx : VS w ρ S xv a) (h : lenE P t xv v) :
    ∃ u, (Builtin.len_ #[t] ty #[a]).run P w = .ok u w ∧ VS w ρ S v u := by
  obtain ⟨⟨e, h1⟩, h2⟩ := h
  split at h2
  · subst h2; obtain ⟨A, cap, rfl, _⟩ := hx; exact ⟨_, by simp [Builtin.len_, run_underlying' h1, goInt], rfl⟩
  · subst h2; obtain ⟨A, cap, rfl, _⟩ := hx; exact ⟨_, by simp [Builtin.len_, run_underlying' h1, goInt], rfl⟩
  · subst h2; obtain ⟨A, cap, rfl, _⟩ := hx; exact ⟨_, by simp [Builtin.len_, run_underlying' h1, goInt], rfl⟩
  · subst h2; obtain ⟨_, A, cap, rfl, _⟩ := hx; exact ⟨_, by simp [Builtin.len_, run_underlying' h1, goInt], rfl⟩
  · subst h2; have := vs_sc hx; subst this; exact ⟨_, by simp [Builtin.len_, run_underlying' h1, goInt], rfl⟩
  · exact h2.elim
end
end Go.Abs

/-
  Plain operations, run: slices, structs; all of them in one.
-/
namespace Go.Abs
open Go

section
variable {P : Program} {w : World} {ρ : Nm → Nat} {S : Store} {r : Operand → AVal} {η : Operand → Value}

theorem bndE_run (hr : ∀ x, VS w ρ S (r x) (η x)) {lo hi : Option Operand} {n c l h cap : Nat} (hb : bndE r lo hi n c l h) (hc : c ≤ cap) :
    (Instr.sliceBounds true n cap (lo.map η) (hi.map η) none).run P w = .ok (l, h, cap) w := by
  obtain ⟨h1, h2, h3, h4⟩ := hb
  have hh : h ≤ cap := Nat.le_trans h4 hc
  cases hi with
  | none =>
    simp only at h2
    subst h2
    cases lo with
    | none => simp only at h1; subst h1; simp [Instr.sliceBounds]
    | some x =>
      simp only at h1
      split at h1
      · rename_i k i hx
        obtain ⟨h0, rfl⟩ := h1
        have e := hr x; rw [hx] at e; have e := vs_sc e
        simp [Instr.sliceBounds, Instr.sliceBound, e, asIntOf, h0, show i ≤ (h : Int) by omega]
      · exact h1.elim
  | some y =>
    simp only at h2
    split at h2
    · rename_i k j hy
      obtain ⟨g0, rfl⟩ := h2
      have ey := hr y; rw [hy] at ey; have ey := vs_sc ey
      have hj : j ≤ (cap : Int) := by omega
      cases lo with
      | none => simp only at h1; subst h1; simp [Instr.sliceBounds, Instr.sliceBound, ey, asIntOf, g0, hj]
      | some x =>
        simp only at h1
        split at h1
        · rename_i k' i hx
          obtain ⟨h0, rfl⟩ := h1
          have e := hr x; rw [hx] at e; have e := vs_sc e
          have hi' : i ≤ (j.toNat : Int) := by omega
          have hi2 : i ≤ j := by omega
          simp [Instr.sliceBounds, Instr.sliceBound, e, ey, asIntOf, h0, g0, hj]
          intro hq; omega
        · exact h1.elim
    · exact h2.elim

theorem slice_run {t e : TypeId} (h1 : P.underlying t = some (.slice e)) (h2 : P.cellsOf e ≠ 0) {A : Option Addr} {n cap l h : Nat} {lo hi : Option Value}
    (hb : (Instr.sliceBounds true n cap lo hi none).run P w = .ok (l, h, cap) w) :
    (Instr.sliceAt t (.slice A n cap) lo hi none).run P w = .ok (.slice (if cap = l then A else A.map (·.add (l * P.cellsOf e))) (h - l) (cap - l)) w := by
  simp [Instr.sliceAt, Instr.slice, run_underlying' h1, hb, run_sizeOf' h2]

theorem sliceE_run (hr : ∀ x, VS w ρ S (r x) (η x)) {t : TypeId} {x : Operand} {lo hi mx : Option Operand} {v : AVal} (h : sliceE P r t x lo hi mx v) :
    ∃ u, (Instr.sliceAt t (η x) (lo.map η) (hi.map η) (mx.map η)).run P w = .ok u w ∧ VS w ρ S v u := by
  obtain ⟨rfl, e, h1, h2, h3⟩ := h
  have hx := hr x
  split at h3
  · rename_i k L e0
    rw [e0] at hx
    obtain ⟨h4, l, h, hb, rfl⟩ := h3
    obtain ⟨A, cap, ea, h7, h8, h9⟩ := hx
    refine ⟨_, by rw [ea]; exact slice_run h1 h2 (bndE_run hr hb h8), ?_⟩
    obtain ⟨-, -, hlh, hhL⟩ := hb
    have hlen : ((L.drop l).take (h - l)).length = h - l := by simp; omega
    refine ⟨_, cap - l, by rw [hlen], Nat.le_refl _, by rw [hlen]; omega, fun hp => ?_⟩
    rw [hlen] at hp
    obtain ⟨b, off, rfl, hf, hc⟩ := h9 (by omega)
    refine ⟨b, off + l, by rw [if_neg (by omega)]; simp [add_pl, h4], hf, fun i x hi => ?_⟩
    have hlt : i < h - l := by
      rcases Nat.lt_or_ge i (h - l) with q | q
      · exact q
      · rw [List.getElem?_eq_none (by simp; omega)] at hi; cases hi
    rw [List.getElem?_take_of_lt hlt, List.getElem?_drop] at hi
    rw [Nat.add_assoc]
    exact hc _ x hi
  · rename_i k L n e0
    rw [e0] at hx
    obtain ⟨h4, l, h, hb, rfl⟩ := h3
    obtain ⟨A, cap, ea, h7, h8, h9⟩ := hx
    refine ⟨_, by rw [ea]; exact slice_run h1 h2 (bndE_run hr hb h8), ?_⟩
    obtain ⟨-, -, hlh, hhL⟩ := hb
    refine ⟨_, cap - l, rfl, by simp; omega, by simp; omega, fun hp => ?_⟩
    simp only [List.length_drop] at hp
    obtain ⟨b, off, rfl, hf, hc⟩ := h9 (by omega)
    refine ⟨b, off + l, by rw [if_neg (by omega)]; simp [add_pl, h4], hf, fun i x hi => ?_⟩
    rw [List.getElem?_drop] at hi
    rw [Nat.add_assoc]
    exact hc _ x hi
  · rename_i sz L e0
    rw [e0] at hx
    obtain ⟨h4, l, h, hb, rfl⟩ := h3
    obtain ⟨A, cap, ea, h7, h8, h9⟩ := hx
    refine ⟨_, by rw [ea]; exact slice_run h1 h2 (bndE_run hr hb h7), ?_⟩
    obtain ⟨-, -, hlh, hhL⟩ := hb
    have hlen : ((L.drop l).take (h - l)).length = h - l := by simp; omega
    refine ⟨_, cap - l, by rw [hlen], by rw [hlen]; omega, fun c hc => h8 c (List.mem_of_mem_drop (List.mem_of_mem_take hc)), fun hp => ?_⟩
    rw [hlen] at hp
    obtain ⟨b, off, rfl, hf, hc⟩ := h9 (by omega)
    refine ⟨b, off + l * sz, by rw [if_neg (by omega)]; simp [add_pl, h4], hf, fun i c j x hi hj => ?_⟩
    have hlt : i < h - l := by
      rcases Nat.lt_or_ge i (h - l) with q | q
      · exact q
      · rw [List.getElem?_eq_none (by simp; omega)] at hi; cases hi
    rw [List.getElem?_take_of_lt hlt, List.getElem?_drop] at hi
    obtain ⟨u, hu, hs⟩ := hc _ c j x hi hj
    refine ⟨u, ?_, hs⟩
    rw [show off + l * sz + (i * sz + j) = off + ((l + i) * sz + j) by rw [Nat.add_mul]; omega]
    exact hu
  · rename_i m off len cm e0
    rw [e0] at hx
    obtain ⟨l, h, hb, rfl, h4⟩ := h3
    obtain ⟨ho, A, cap, ea, h7, h8, h9⟩ := hx
    refine ⟨_, by rw [ea]; exact slice_run h1 h2 (bndE_run hr hb h8), ho, ?_⟩
    obtain ⟨-, -, hlh, hhL⟩ := hb
    refine ⟨_, cap - l, rfl, by omega, by omega, fun hp => ?_⟩
    obtain ⟨rfl, hs⟩ := h9 (by omega)
    refine ⟨by rw [if_neg (by omega)]; simp [add_pl, h4], ?_⟩
    obtain ⟨ty, q, q1, q2⟩ := hs
    exact ⟨ty, q, q1, by rw [h4]; omega⟩
  · rename_i e0
    rw [e0] at hx
    obtain ⟨l, h, hb, rfl⟩ := h3
    have ea := vs_sc hx
    refine ⟨.slice none 0 0, ?_, rfl⟩
    have := slice_run h1 h2 (A := none) (n := 0) (cap := 0) (bndE_run hr hb (Nat.le_refl 0))
    rw [ea]
    refine this.trans ?_
    obtain ⟨-, -, hlh, hhL⟩ := hb
    have hh : h = 0 := by omega
    have hl : l = 0 := by omega
    subst hh hl
    simp
  · exact h3.elim

theorem mkE_run (hr : ∀ x, VS w ρ S (r x) (η x)) {f : FuncId} {cap : Array Operand} {v : AVal} (h : mkE r f cap v) :
    ∃ u, (Instr.makeFunc (.func f) #[] (cap.map η)).run P w = .ok u w ∧ VS w ρ S v u := by
  obtain ⟨cs, h1, h2, rfl⟩ := h
  refine ⟨_, rfl, _, rfl, by simpa using (congrArg List.length h1).symm, fun i x hi => ?_⟩
  have h3 : (cap.toList.map r)[i]? = some (.c x) := by rw [h1]; simp [hi]
  rw [List.getElem?_map] at h3
  cases e : cap.toList[i]? with
  | none => rw [e] at h3; cases h3
  | some y =>
    rw [e] at h3
    simp only [Option.map_some, Option.some.injEq] at h3
    have hy := hr y
    rw [h3] at hy
    have hs := h2 x (List.mem_of_getElem? hi)
    refine ⟨η y, by simpa using ⟨y, by simpa using e, rfl⟩, ?_, hy⟩
    cases x <;> first
      | (have := vs_sc hy; rw [this]; exact hs)
      | (obtain ⟨A, c, q, _⟩ := hy; rw [q]; rfl)
      | (obtain ⟨_, A, c, q, _⟩ := hy; rw [q]; rfl)
      | (obtain ⟨_, q⟩ := hy; rw [q]; rfl)
      | (obtain ⟨b, o, q, _⟩ := hy; rw [q]; rfl)
      | exact hs.elim

theorem CellS.one {x : Cell} {u : Value} (hy : CellS w ρ S x u) (hs : x.solid) : u.oneCell' = true := by
  cases x <;> first
      | (have : u = _ := hy; rw [this]; exact hs)
      | (obtain ⟨A, c, q, _⟩ := hy; rw [q]; rfl)
      | (obtain ⟨_, A, c, q, _⟩ := hy; rw [q]; rfl)
      | (obtain ⟨_, q⟩ := hy; rw [q]; rfl)
      | (obtain ⟨b, o, q, _⟩ := hy; rw [q]; rfl)
      | exact hs.elim

/-- The cells of a value that may be stored. -/
theorem solid_cells {x : AVal} {u : Value} (hs : x.solid) (hx : VS w ρ S x u) : CellsS w ρ S x.cells u.cells.toList := by
  cases x with
  | c x =>
    have h1 := CellS.one hx hs
    have e : u.cells = #[u] := by cases u <;> first | rfl | (simp [Value.oneCell'] at h1)
    rw [e]
    refine ⟨rfl, fun i y hi => ?_⟩
    match i, hi with
    | 0, hi =>
      simp only [AVal.cells, List.getElem?_cons_zero, Option.some.injEq] at hi
      subst hi
      exact ⟨u, rfl, h1, hx⟩
  | agg cs => obtain ⟨vs, rfl, h⟩ := hx; exact h
  | fn f cs => exact hs.elim
  | accv m => exact hs.elim
  | tup xs => exact hs.elim

theorem CellsS.spl {cs xs : List Cell} {vs us : List Value} (h : CellsS w ρ S cs vs) (hx : CellsS w ρ S xs us) {off : Nat} (hl : off + xs.length ≤ cs.length) :
    CellsS w ρ S (spl cs off xs) (vs.take off ++ us ++ vs.drop (off + us.length)) := by
  have e1 := h.1
  have e2 := hx.1
  refine ⟨by simp [Abs.spl]; omega, fun i x hi => ?_⟩
  unfold Abs.spl at hi
  rcases Nat.lt_or_ge i off with q | q
  · rw [List.append_assoc, List.getElem?_append_left (by simp; omega), List.getElem?_take_of_lt q] at hi
    rw [List.append_assoc, List.getElem?_append_left (by simp; omega), List.getElem?_take_of_lt q]
    exact h.2 i x hi
  · rcases Nat.lt_or_ge i (off + xs.length) with q2 | q2
    · rw [List.append_assoc, List.getElem?_append_right (by simp; omega), List.getElem?_append_left (by simp; omega)] at hi
      rw [List.append_assoc, List.getElem?_append_right (by simp; omega), List.getElem?_append_left (by simp; omega)]
      have e3 : (vs.take off).length = (cs.take off).length := by simp; omega
      rw [e3]
      exact hx.2 _ x hi
    · rw [List.getElem?_append_right (by simp; omega), List.getElem?_drop] at hi
      rw [List.getElem?_append_right (by simp; omega), List.getElem?_drop]
      have e3 : (vs.take off ++ us).length = (cs.take off ++ xs).length := by simp; omega
      rw [e3, ← e2]
      exact h.2 _ x hi

theorem minE_run {b : Builtin} (hr : ∀ x, VS w ρ S (r x) (η x)) {args : Array Operand} {v : AVal} (h : minE b (args.toList.map r) v) :
    ∃ u, (∀ tys ty, b = .min → (Builtin.min_ tys ty (args.map η)).run P w = .ok u w) ∧ (∀ tys ty, b = .max → (Builtin.max_ tys ty (args.map η)).run P w = .ok u w) ∧ VS w ρ S v u := by
  obtain ⟨l⟩ := args
  have two : ∀ x y : AVal, l.map r = [x, y] → ∃ p q, l = [p, q] ∧ r p = x ∧ r q = y := by
    intro x y e
    rcases l with _ | ⟨p, _ | ⟨q, _ | ⟨s, t⟩⟩⟩ <;> simp at e
    exact ⟨p, q, rfl, e.1, e.2⟩
  unfold minE at h
  split at h
  · rename_i k x k' y e
    obtain ⟨p, q, rfl, e1, e2⟩ := two _ _ e
    have ep := hr p; rw [e1] at ep; have ep := vs_sc ep
    have eq := hr q; rw [e2] at eq; have eq := vs_sc eq
    subst h
    exact ⟨.int k (if y < x then y else x), (fun _ _ _ => by simp [Builtin.min_, ep, eq, Builtin.min2]), (fun _ _ h => nomatch h), rfl⟩
  · rename_i k x k' y e
    obtain ⟨p, q, rfl, e1, e2⟩ := two _ _ e
    have ep := hr p; rw [e1] at ep; have ep := vs_sc ep
    have eq := hr q; rw [e2] at eq; have eq := vs_sc eq
    subst h
    exact ⟨.int k (if x < y then y else x), (fun _ _ h => nomatch h), (fun _ _ _ => by simp [Builtin.max_, ep, eq, Builtin.max2]), rfl⟩
  · exact h.elim

/-! ### Building a struct -/
theorem foldl_set_take : ∀ (us : List Value) (i off : Nat) (cs : Array Value), off + i + us.length ≤ cs.size →
    ((us.zipIdx i).foldl (fun cs (p : Value × Nat) => cs.setIfInBounds (off + p.2) p.1) cs).toList = cs.toList.take (off + i) ++ us ++ cs.toList.drop (off + i + us.length)
  | [], i, off, cs, _ => by simp
  | u :: us, i, off, cs, h => by
    simp only [List.length_cons] at h
    rw [List.zipIdx_cons, List.foldl_cons, foldl_set_take us (i + 1) off _ (by simp; omega)]
    simp only [Array.toList_setIfInBounds]
    apply List.ext_getElem?
    intro j
    simp only [List.append_assoc, List.getElem?_append, List.length_take, List.length_set, Array.length_toList, List.getElem?_take, List.getElem?_set, List.getElem?_drop, List.length_cons]
    rw [Nat.min_eq_left (by omega), Nat.min_eq_left (by omega)]
    by_cases h1 : j < off + i
    · simp only [show j < off + (i + 1) by omega, if_true, h1, show ¬ off + i = j by omega, if_false]
    · by_cases h2 : j = off + i
      · subst h2
        simp only [show off + i < off + (i + 1) by omega, if_true, Nat.lt_irrefl, if_false, Nat.sub_self]
        simp [show off + i < cs.size by omega]
      · simp only [show ¬ j < off + (i + 1) by omega, if_false, h1]
        obtain ⟨d, rfl⟩ : ∃ d, j = off + i + 1 + d := ⟨j - (off + i + 1), by omega⟩
        rw [show off + i + 1 + d - (off + (i + 1)) = d by omega, show off + i + 1 + d - (off + i) = d + 1 by omega]
        simp only [Nat.add_lt_add_iff_right, List.getElem?_cons_succ]
        by_cases h3 : d < us.length
        · simp only [h3, if_true]
        · simp only [h3, if_false]
          rw [if_neg (by omega)]
          congr 1
          omega

theorem fillE_run (hr : ∀ x, VS w ρ S (r x) (η x)) {place : Nat → Option (Nat × Nat)} : ∀ (parts : List (Nat × Operand)) (cs out : List Cell) (vs : Array Value), CellsS w ρ S cs vs.toList → fillE place r cs parts out →
    ∃ us, Instr.fill place vs (parts.map fun p => (p.1, η p.2)) = some us ∧ CellsS w ρ S out us.toList
  | [], cs, out, vs, h, hf => by
    simp only [fillE] at hf
    subst hf
    exact ⟨vs, rfl, h⟩
  | (i, x) :: rest, cs, out, vs, h, hf => by
    obtain ⟨off, size, h1, h2, h3, h4, h5⟩ := hf
    have hx := solid_cells h2 (hr x)
    have e1 : (η x).cells.size = size := by have := hx.1; simp at this; omega
    have e2 := h.1
    simp only [Array.length_toList] at e2
    have hsp := h.spl hx (off := off) (by rw [h3]; exact h4)
    simp only [List.map_cons, Instr.fill, h1]
    have e3 : (!decide ((η x).cells.size = size) || decide (off + (η x).cells.size > vs.size)) = false := by
      simp [e1]; omega
    have hfo := foldl_set_take (η x).cells.toList 0 off vs (by simp; omega)
    obtain ⟨us, hu1, hu2⟩ := fillE_run hr rest (spl cs off (r x).cells) out ((η x).cells.zipIdx.foldl (fun cs (p : Value × Nat) => cs.setIfInBounds (off + p.2) p.1) vs) (by
      have : ((η x).cells.zipIdx.foldl (fun cs (p : Value × Nat) => cs.setIfInBounds (off + p.2) p.1) vs).toList = vs.toList.take off ++ (η x).cells.toList ++ vs.toList.drop (off + (η x).cells.toList.length) := by
        rw [Nat.add_zero] at hfo
        rw [← hfo, ← Array.foldl_toList, Array.toList_zipIdx]
      rw [this]; exact hsp) h5
    refine ⟨us, ?_, hu2⟩
    rw [if_neg (by simpa using e3)]
    exact hu1

theorem run_zeroOf {t : TypeId} {z : Value} (h : zeroOf P t = some z) (w : World) : (zeroValue t).run P w = .ok z w := by
  unfold zeroOf at h
  cases e : P.info? t with
  | none => simp [e] at h
  | some i =>
    simp only [e, Option.bind_some] at h
    simp [zeroValue, typeInfo, e, h]

theorem zero_cells {t : TypeId} {cs : List Cell} (h : zeroCells P t = some cs) (hs : ∀ x ∈ cs, x.solid) : ∃ z, zeroOf P t = some z ∧ CellsS w ρ S cs z.cells.toList := by
  unfold zeroCells at h
  cases e : zeroOf P t with
  | none => simp [e] at h
  | some z =>
    simp only [e, Option.map_some, Option.some.injEq] at h
    subst h
    refine ⟨z, rfl, by simp, fun i x hi => ?_⟩
    have hx := hs x (List.mem_of_getElem? hi)
    rw [List.getElem?_map] at hi
    cases e2 : z.cells.toList[i]? with
    | none => rw [e2] at hi; cases hi
    | some y =>
      rw [e2] at hi
      simp only [Option.map_some, Option.some.injEq] at hi
      subst hi
      exact ⟨y, rfl, hx, rfl⟩

theorem run_places : ∀ (fs : List Field) (w : World), (∀ f ∈ fs, P.info? f.type ≠ none) →
    (fs.mapM fun (f : Field) => (do pure (f.offset, ← sizeOf f.type) : Sem (Nat × Nat))).run P w = .ok (fs.map fun f => (f.offset, P.cellsOf f.type)) w
  | [], w, _ => rfl
  | f :: fs, w, h => by
    rw [List.mapM_cons]
    have h1 := run_sizeOf'' (h f (by simp)) w
    have h2 := run_places fs w (fun g hg => h g (by simp [hg]))
    simp only [Sem.run_bind, h1, Result.andThen_ok, Sem.run_pure, h2, List.map_cons]

theorem buildE_run (hr : ∀ x, VS w ρ S (r x) (η x)) {t : TypeId} {parts : Array (Nat × Operand)} {v : AVal} (h : buildE P r t parts v) :
    ∃ u, (Instr.build t (parts.map fun p => (p.1, η p.2))).run P w = .ok u w ∧ VS w ρ S v u := by
  obtain ⟨fs, z, out, h1, h2, h3, h4, h5, rfl⟩ := h
  obtain ⟨zv, h6, h7⟩ := zero_cells (w := w) (ρ := ρ) (S := S) h3 h4
  obtain ⟨us, h8, h9⟩ := fillE_run hr parts.toList z out zv.cells h7 h5
  refine ⟨.agg us, ?_, us, rfl, h9⟩
  have h10 : (fs.mapM fun (f : Field) => (do pure (f.offset, ← sizeOf f.type) : Sem (Nat × Nat))).run P w = .ok (placesOf P fs) w := by
    have := run_places (P := P) fs.toList w (fun f hf => h2 f (by simpa using hf))
    obtain ⟨fl⟩ := fs
    rw [List.mapM_toArray]
    simp only [Sem.run_map, this, Result.andThen_ok]
    simp [placesOf]
  simp only [Instr.build, Sem.run_bind, run_zeroOf h6, Result.andThen_ok, run_underlying' h1, h10]
  have h11 : (parts.map fun p => (p.1, η p.2)).toList = parts.toList.map fun p => (p.1, η p.2) := by simp
  rw [h11, h8]
  rfl
end
end Go.Abs

/-
  Plain operations, all in one; loads, new blocks, stores.
-/
namespace Go.Abs
open Go

section
variable {P : Program} {w : World} {ρ : Nm → Nat} {S : Store} {r : Operand → AVal} {η : Operand → Value}

theorem VS_of_VS1 {x : AVal} {u : Value} (h : VS1 w ρ S x u) : VS w ρ S x u := by
  cases x with
  | tup xs => exact h.elim
  | accv m => exact h.elim
  | _ => exact h

theorem run_then {α : Type} {x : Sem α} {u : α} (h : x.run P w = .ok u w) (f : α → Next) : (do pure (f (← x)) : Sem Next).run P w = .ok (f u) w := by
  simp [h]

theorem sindE_run {t : TypeId} {xv iv v : AVal} {a i : Value} (hx : VS w ρ S xv a) (hi : VS w ρ S iv i) (h : sindE P t xv iv v) : ∃ u, (Instr.index t a i).run P w = .ok u w ∧ VS w ρ S v u := by
  obtain ⟨hu, h⟩ := h
  split at h
  · rename_i s k j
    obtain ⟨h1, b, h2, rfl⟩ := h
    have e1 := vs_sc hx
    have e2 := vs_sc hi
    subst e1; subst e2
    exact ⟨_, by simp [Instr.index, asIntOf, run_underlying' hu, h1, h2], rfl⟩
  · exact h.elim

theorem PE_run (hr : ∀ x, VS w ρ S (r x) (η x)) {o : Oper} {v : AVal} (h : PE P r o.op v) :
    ∃ u, (execOp η o).run P w = .ok (.value u) w ∧ VS w ρ S v u := by
  obtain ⟨dst, op, ty, pos, after, guard⟩ := o
  cases op with
  | move x => simp only [PE] at h; subst h; exact ⟨_, rfl, hr _⟩
  | assign x => simp only [PE] at h; subst h; exact ⟨_, rfl, hr _⟩
  | pick c a b =>
    simp only [PE] at h
    split at h
    · rename_i t e
      have ec := hr c; rw [e] at ec; have ec := vs_sc ec
      subst h
      refine ⟨if t then η a else η b, by simp [execOp, ec, asBool], ?_⟩
      cases t
      · exact hr b
      · exact hr a
    · exact h.elim
  | nilCheck x =>
    simp only [PE] at h
    have hx := hr x
    refine ⟨η x, ?_, ?_⟩
    · split at h
      · rename_i e; rw [e] at hx; obtain ⟨_, q⟩ := hx; simp [execOp, q]
      · rename_i e; rw [e] at hx; obtain ⟨b, o, q, _⟩ := hx; simp [execOp, q]
      · rename_i e; rw [e] at hx; obtain ⟨vs, q, _⟩ := hx; simp [execOp, q]
      · exact h.elim
    · split at h <;> first | exact h.elim | (subst h; exact hx)
  | binOp op T x y T2 =>
    obtain ⟨u, h1, h2⟩ := binE_run (x := x) (y := y) (hr x) (hr y) h
    exact ⟨u, run_then h1 _, h2⟩
  | unOp op T x => obtain ⟨u, h1, h2⟩ := unE_run (hr x) h; exact ⟨u, run_then h1 _, h2⟩
  | convert s d x => obtain ⟨u, h1, h2⟩ := convE_run (hr x) h; exact ⟨u, run_then h1 _, h2⟩
  | fieldAddr s x f => obtain ⟨u, h1, h2⟩ := fieldAddrE_run (hr x) h; exact ⟨u, run_then h1 _, h2⟩
  | field s x f => obtain ⟨u, h1, h2⟩ := fieldE_run (hr x) h; exact ⟨u, run_then h1 _, h2⟩
  | indexAddr t x i => obtain ⟨u, h1, h2⟩ := indexE_run (hr x) (hr i) h; exact ⟨u, run_then h1 _, h2⟩
  | slice t x lo hi mx => obtain ⟨u, h1, h2⟩ := sliceE_run hr h; exact ⟨u, run_then h1 _, h2⟩
  | index t x i => obtain ⟨u, h1, h2⟩ := sindE_run (hr x) (hr i) h; exact ⟨u, run_then h1 _, h2⟩
  | extract x i =>
    obtain ⟨u, h1, h2⟩ := extractE_run (hr x) h
    exact ⟨u, run_then h1 _, h2⟩
  | build t ps => obtain ⟨u, h1, h2⟩ := buildE_run hr h; exact ⟨u, run_then h1 _, h2⟩
  | makeFunc g first cap =>
    simp only [PE] at h
    split at h
    · obtain ⟨rfl, h⟩ := h
      obtain ⟨u, h1, h2⟩ := mkE_run (P := P) hr h
      exact ⟨u, by simp [execOp, h1], h2⟩
    · exact h.elim
  | call c =>
    simp only [PE] at h
    split at h
    · rename_i b e
      obtain ⟨callee, args, tys⟩ := c
      simp only at e h
      subst e
      unfold builtinE at h
      split at h
      · rename_i x t ea et
        have ea' : args = #[x] := by cases args; simp_all
        have et' : tys = #[t] := by cases tys; simp_all
        subst ea' et'
        obtain ⟨u, h1, h2⟩ := lenE_run (ty := ty) (hr x) h
        exact ⟨u, by simp [execOp, resolve, invoke, builtin, h1], h2⟩
      · obtain ⟨u, h1, _, h2⟩ := minE_run (P := P) hr h
        exact ⟨u, by simp [execOp, resolve, invoke, builtin, h1 tys ty rfl], h2⟩
      · obtain ⟨u, _, h1, h2⟩ := minE_run (P := P) hr h
        exact ⟨u, by simp [execOp, resolve, invoke, builtin, h1 tys ty rfl], h2⟩
      · exact h.elim
    · exact h.elim
  | _ => exact h.elim

/-! ### Loads -/
def objCell (o : AObj) (i : Nat) : Option Cell :=
  match o with
  | .cells _ cs => cs[i]?
  | .ints _ k L => (L[i]?).map fun x => .sc (.int k x)
  | .acc _ k L => (L[i]?).map fun x => .sc (.int k x)

/-- A load of type t. -/
def loadE (P : Program) (S : Store) (t : TypeId) (a v : AVal) : Prop :=
  match a with
  | .c (.ptr m off) => ∃ o, S m = some o ∧ ((aggT P t = some true ∧ P.cellsOf t ≠ 0 ∧ ∃ ty cs, o = .cells ty cs ∧ off + P.cellsOf t ≤ cs.length ∧ v = .agg ((cs.drop off).take (P.cellsOf t))) ∨
      (aggT P t = some false ∧ ∃ x, objCell o off = some x ∧ v = .c x))
  | .c (.pim cs) => (aggT P t = some true ∧ P.cellsOf t ≠ 0 ∧ P.cellsOf t ≤ cs.length ∧ v = .agg ((cs.take (P.cellsOf t)).map Leaf.cell)) ∨ (aggT P t = some false ∧ ∃ x, cs[0]? = some x ∧ v = .c x.cell)
  | _ => False

theorem LeafS.cellS {x : Leaf} {u : Value} (h : LeafS w (Fr w ρ S) x u) : CellS w ρ S x.cell u := by
  cases x with
  | sc c => exact h.1
  | ints k L => exact h
theorem LeafS.one {x : Leaf} {u : Value} (h : LeafS w (Fr w ρ S) x u) : u.oneCell' = true := by
  cases x with
  | sc c => obtain ⟨rfl, h⟩ := h; exact h
  | ints k L => obtain ⟨A, cap, rfl, _⟩ := h; rfl

theorem cell_of_heap {b : Nat} {vs : Array Value} {ty : TypeId} {f : Nat × Nat} (h : w.heap[b]? = some (.cells vs ty f)) (o : Nat) : w.cell? ⟨b, o, none⟩ = vs[o]? := by
  simp [World.cell?, h]

theorem run_load_cell {a : Addr} {u : Value} (h : w.cell? a = some u) : (load a).run P w = .ok u w := by simp [h]

theorem run_loadCells_at (b off : Nat) (us : List Value) (h : ∀ j u, us[j]? = some u → w.cell? ⟨b, off + j, none⟩ = some u) : (loadCells ⟨b, off, none⟩ us.length).run P w = .ok us.toArray w :=
  run_loadCells_list w _ us (fun j v hj => by rw [add_pl]; exact h j v hj)

theorem list_of_cells {n : Nat} {Q : Nat → Value → Prop} (h : ∀ j, j < n → ∃ u, Q j u) : ∃ us : List Value, us.length = n ∧ ∀ j u, us[j]? = some u → Q j u := by
  induction n with
  | zero => exact ⟨[], rfl, fun j u h => by simp at h⟩
  | succ n ih =>
    obtain ⟨us, h1, h2⟩ := ih (fun j hj => h j (by omega))
    obtain ⟨u, hu⟩ := h n (by omega)
    refine ⟨us ++ [u], by simp [h1], fun j v hj => ?_⟩
    rw [List.getElem?_append] at hj
    split at hj
    · exact h2 j v hj
    · have : j = n := by
        rcases Nat.lt_or_ge j (n + 1) with q | q
        · omega
        · rw [List.getElem?_eq_none (by simp; omega)] at hj; cases hj
      subst this
      simp [h1] at hj
      subst hj; exact hu

theorem loadE_run (he : EnvS w ρ S) {t : TypeId} {a v : AVal} {u : Value} (ha : VS w ρ S a u) (h : loadE P S t a v) :
    ∃ x, (Instr.loadAt t u).run P w = .ok x w ∧ VS w ρ S v x := by
  unfold loadE at h
  split at h
  · rename_i m off
    obtain ⟨-, rfl⟩ := ha
    obtain ⟨o, hm, ⟨h1, h2, ty, cs, rfl, h3, rfl⟩ | ⟨h1, x, h2, rfl⟩⟩ := h
    · obtain ⟨vs, q1, q2⟩ := he.obj m _ hm
      obtain ⟨us, l1, l2⟩ := list_of_cells (n := P.cellsOf t) (Q := fun j u => vs[off + j]? = some u ∧ ∀ x, cs[off + j]? = some x → u.oneCell' = true ∧ CellS w ρ S x u) (fun j hj => by
        obtain ⟨u, p1, p2, p3⟩ := q2 (off + j) _ (List.getElem?_eq_getElem (by omega))
        exact ⟨u, p1, fun x hx => by rw [List.getElem?_eq_getElem (by omega)] at hx; obtain rfl := Option.some.inj hx; exact ⟨p2, p3⟩⟩)
      have hl := run_loadCells_at (P := P) (w := w) (ρ m) off us (fun j u hu => by rw [cell_of_heap q1]; exact (l2 j u hu).1)
      rw [l1] at hl
      refine ⟨.agg us.toArray, by simp [Instr.loadAt, Instr.sureAddr, loadVar, run_isAgg' h1, run_sizeOf' h2, hl], us.toArray, rfl, by simp; omega, fun i x hi => ?_⟩
      have hlt : i < P.cellsOf t := by
        rcases Nat.lt_or_ge i (P.cellsOf t) with q | q
        · exact q
        · rw [List.getElem?_eq_none (by simp; omega)] at hi; cases hi
      rw [List.getElem?_take_of_lt hlt, List.getElem?_drop] at hi
      obtain ⟨-, p⟩ := l2 i _ (List.getElem?_eq_getElem (by omega))
      exact ⟨us[i], by simp, (p x hi).1, (p x hi).2⟩
    · have hc : ∃ u, w.cell? ⟨ρ m, off, none⟩ = some u ∧ CellS w ρ S x u := by
        have ho := he.obj m o hm
        cases o with
        | cells ty cs =>
          obtain ⟨vs, q1, q2⟩ := ho
          obtain ⟨u, p1, -, p3⟩ := q2 off x h2
          exact ⟨u, by rw [cell_of_heap q1]; exact p1, p3⟩
        | ints ty k L =>
          obtain ⟨vs, q1, q2⟩ := ho
          simp only [objCell, Option.map_eq_some_iff] at h2
          obtain ⟨y, p1, rfl⟩ := h2
          exact ⟨_, by rw [cell_of_heap q1]; exact q2 off y p1, rfl⟩
        | acc ty k L =>
          simp only [objCell, Option.map_eq_some_iff] at h2
          obtain ⟨y, p1, rfl⟩ := h2
          rcases ho with rfl | ⟨vs, q1, q2⟩
          · simp at p1
          · exact ⟨_, by rw [cell_of_heap q1]; exact q2 off y p1, rfl⟩
      obtain ⟨u, p1, p2⟩ := hc
      exact ⟨u, by simp [Instr.loadAt, Instr.sureAddr, loadVar, run_isAgg' h1, p1], p2⟩
  · rename_i cs
    obtain ⟨b, off, rfl, hf, hc⟩ := ha
    rcases h with ⟨h1, h2, h3, rfl⟩ | ⟨h1, x, h2, rfl⟩
    · obtain ⟨us, l1, l2⟩ := list_of_cells (n := P.cellsOf t) (Q := fun j u => w.cell? ⟨b, off + j, none⟩ = some u ∧ ∀ x, cs[j]? = some x → LeafS w (Fr w ρ S) x u) (fun j hj => by
        obtain ⟨u, p1, p2⟩ := hc j _ (List.getElem?_eq_getElem (by omega))
        exact ⟨u, p1, fun x hx => by rw [List.getElem?_eq_getElem (by omega)] at hx; obtain rfl := Option.some.inj hx; exact p2⟩)
      have hl := run_loadCells_at (P := P) (w := w) b off us (fun j u hu => (l2 j u hu).1)
      rw [l1] at hl
      refine ⟨.agg us.toArray, by simp [Instr.loadAt, Instr.sureAddr, loadVar, run_isAgg' h1, run_sizeOf' h2, hl], us.toArray, rfl, by simp; omega, fun i x hi => ?_⟩
      have hlt : i < P.cellsOf t := by
        rcases Nat.lt_or_ge i (P.cellsOf t) with q | q
        · exact q
        · rw [List.getElem?_eq_none (by simp; omega)] at hi; cases hi
      rw [List.getElem?_map, List.getElem?_take_of_lt hlt] at hi
      obtain ⟨-, p⟩ := l2 i _ (List.getElem?_eq_getElem (by omega))
      cases e : cs[i]? with
      | none => rw [e] at hi; cases hi
      | some y =>
        rw [e] at hi
        simp only [Option.map_some, Option.some.injEq] at hi
        subst hi
        exact ⟨us[i], by simp, (p y e).one, (p y e).cellS⟩
    · obtain ⟨u, p1, p2⟩ := hc 0 x h2
      rw [Nat.add_zero] at p1
      exact ⟨u, by simp [Instr.loadAt, Instr.sureAddr, loadVar, run_isAgg' h1, p1], p2.cellS⟩
  · exact h.elim
end
end Go.Abs

/-
  New blocks, stores, appends: what they leave, and that it stands.
-/
namespace Go.Abs
open Go

theorem upd_same (S : Store) (m : Nm) (o : AObj) : upd S m o m = some o := by simp [upd]
theorem upd_ne (S : Store) {m n : Nm} (o : AObj) (h : n ≠ m) : upd S m o n = S n := by simp [upd, h]

section
variable {P : Program} {w : World} {ρ : Nm → Nat} {S : Store} {r : Operand → AVal} {η : Operand → Value}

/-! ### A new block -/
def setN (ρ : Nm → Nat) (n : Nm) (b : Nat) : Nm → Nat := fun m => if m = n then b else ρ m

theorem heap_alloc_old (w : World) (o : Obj) {b : Nat} (h : b < w.heap.size) : (w.alloc o).heap[b]? = w.heap[b]? := RowKit.Below.heap_alloc w o b h
theorem heap_alloc_at (w : World) (o : Obj) : (w.alloc o).heap[w.heap.size]? = some o := heap_alloc_new w o

theorem EnvS.lt (he : EnvS w ρ S) {m : Nm} {o : AObj} (h : S m = some o) (hr : o.real = true) : ρ m < w.heap.size := by
  have ho := he.obj m o h
  have : ∃ x, w.heap[ρ m]? = some x := by
    cases o with
    | cells ty cs => obtain ⟨vs, q, _⟩ := ho; exact ⟨_, q⟩
    | ints ty k L => obtain ⟨vs, q, _⟩ := ho; exact ⟨_, q⟩
    | acc ty k L =>
      rcases ho with rfl | ⟨vs, q, _⟩
      · cases hr
      · exact ⟨_, q⟩
  obtain ⟨x, hx⟩ := this
  exact (Array.getElem?_eq_some_iff.1 hx).1

/-- A world that has the same blocks, but for one more at its end (which name n is given). -/
structure New (w w' : World) (n : Nm) (o : Obj) : Prop where
  os : w'.os = w.os
  tape : w'.tape = w.tape
  output : w'.output = w.output
  size : w'.heap.size = w.heap.size + 1
  old : ∀ b, b < w.heap.size → w'.heap[b]? = w.heap[b]?
  new : w'.heap[w.heap.size]? = some o

theorem New.of_alloc (w : World) (n : Nm) (o : Obj) : New w (w.alloc o) n o := ⟨rfl, rfl, rfl, by simp, fun _ h => heap_alloc_old w o h, heap_alloc_at w o⟩

theorem New.ext {w' : World} {n : Nm} {o : Obj} (h : New w w' n o) (he : EnvS w ρ S) (hn : S n = none) (ob : AObj) : Ext (fun _ => False) w ρ S w' (setN ρ n w.heap.size) (upd S n ob) where
  os := h.os
  tape := h.tape
  output := h.output
  size := by rw [h.size]; omega
  old b hb _ := h.old b hb
  nms m o' hm hr := by
    by_cases e : m = n
    · subst e; exact .inr (by simp [setN])
    · rw [upd_ne S ob e] at hm
      exact .inl ⟨o', hm, hr, by simp [setN, e]⟩
  kp m o hm hr := by
    have e : m ≠ n := fun e => by subst e; rw [hn] at hm; cases hm
    exact ⟨o, by rw [upd_ne S ob e]; exact hm, hr, by simp [setN, e]⟩
  szs m o _ hm hr ty q hq := by
    obtain ⟨vs, h1, h2⟩ := hq
    exact ⟨vs, by rw [h.old _ (he.lt hm hr)]; exact h1, h2⟩
  acc m ty k L _ hm := by
    have e : m ≠ n := fun e => by subst e; rw [hn] at hm; cases hm
    exact ⟨by rw [upd_ne S ob e]; exact hm, fun _ => by simp [setN, e]⟩
  nx _ h := h.elim

theorem ObjS.ext {X : Nm → Prop} {w' : World} {ρ' : Nm → Nat} {S' : Store} (h : Ext X w ρ S w' ρ' S') {b b' : Nat} {o : AObj} (hb : ∀ x, w.heap[b]? = some x → w'.heap[b']? = some x)
(ho : ObjS w ρ S b o) : ObjS w' ρ' S' b' o := by
  cases o with
  | cells ty cs =>
    obtain ⟨vs, q1, q2⟩ := ho
    refine ⟨vs, hb _ q1, fun i x hi => ?_⟩
    obtain ⟨u, p1, p2, p3⟩ := q2 i x hi
    exact ⟨u, p1, p2, p3.ext h⟩
  | ints ty k L => obtain ⟨vs, q1, q2⟩ := ho; exact ⟨vs, hb _ q1, q2⟩
  | acc ty k L =>
    rcases ho with e | ⟨vs, q1, q2⟩
    · exact .inl e
    · exact .inr ⟨vs, hb _ q1, q2⟩

theorem New.env {w' : World} {n : Nm} {o : Obj} (h : New w w' n o) (he : EnvS w ρ S) (hn : S n = none) {ob : AObj}
    (hob : ObjS w' (setN ρ n w.heap.size) (upd S n ob) w.heap.size ob) : EnvS w' (setN ρ n w.heap.size) (upd S n ob) where
  inj m m' o1 o2 h1 h2 r1 r2 e := by
    by_cases e1 : m = n <;> by_cases e2 : m' = n
    · rw [e1, e2]
    · rw [upd_ne S ob e2] at h2
      have := he.lt h2 r2
      simp only [setN, e1, e2, if_true, if_false] at e; omega
    · rw [upd_ne S ob e1] at h1
      have := he.lt h1 r1
      simp only [setN, e1, e2, if_true, if_false] at e; omega
    · rw [upd_ne S ob e1] at h1
      rw [upd_ne S ob e2] at h2
      simp only [setN, e1, e2, if_false] at e
      exact he.inj m m' o1 o2 h1 h2 r1 r2 e
  obj m o1 h1 := by
    by_cases e1 : m = n
    · subst e1
      rw [upd_same] at h1
      obtain rfl := Option.some.inj h1
      simpa [setN] using hob
    · rw [upd_ne S ob e1] at h1
      simp only [setN, e1, if_false]
      have ho := he.obj m o1 h1
      by_cases hr : o1.real = true
      · refine ho.ext (h.ext he hn ob) (fun x hx => ?_)
        rw [h.old _ (he.lt h1 hr)]; exact hx
      · cases o1 with
        | acc ty k L => cases L with | nil => exact .inl rfl | cons a l => exact absurd rfl hr
        | cells ty cs => exact absurd rfl hr
        | ints ty k L => exact absurd rfl hr

theorem CellsS.obj {w' : World} {n : Nm} {ty : TypeId} {cs : List Cell} {vs : Array Value} (h : New w w' n (.cells vs ty)) (he : EnvS w ρ S) (hn : S n = none) (hc : CellsS w ρ S cs vs.toList) :
    ObjS w' (setN ρ n w.heap.size) (upd S n (.cells ty cs)) w.heap.size (.cells ty cs) := by
  refine ⟨vs, h.new, fun i x hi => ?_⟩
  obtain ⟨u, h1, h2, h3⟩ := hc.2 i x hi
  exact ⟨u, by simpa using h1, h2, h3.ext (h.ext he hn _)⟩

/-! ### Operations that make a block -/
def rep (n : Nat) (cs : List Cell) : List Cell := (List.replicate n cs).flatten

def intsOf (k : IntKind) (L : List Int) : List Cell := L.map fun x => .sc (.int k x)

/-- The block named loc d that an operation makes, and what it hands back. -/
def newE (P : Program) (r : Operand → AVal) (d : Nat) (op : Op) (v : AVal) (ob : AObj) : Prop :=
  match op with
  | .alloc e => ∃ z, zeroCells P e = some z ∧ (∀ x ∈ z, x.solid) ∧ v = .c (.ptr (.loc d) 0) ∧ ob = .cells e z
  | .box e x => (r x).solid ∧ v = .c (.ptr (.loc d) 0) ∧ ob = .cells e (r x).cells
  | .buildSlice t n ps => ∃ e z out, P.underlying t = some (.slice e) ∧ P.cellsOf e ≠ 0 ∧ n * P.cellsOf e ≤ 2 ^ 24 ∧ zeroCells P e = some z ∧ z.length = P.cellsOf e ∧ (∀ x ∈ z, x.solid) ∧
      fillE (fun i => some (i * P.cellsOf e, P.cellsOf e)) r (rep n z) ps.toList out ∧
      ((v = .c (.win (.loc d) 0 n n) ∧ (ob = .cells e out ∨ ∃ k L, out = intsOf k L ∧ ob = .ints e k L)) ∨ (P.cellsOf e = 1 ∧ ∃ k L, out = intsOf k L ∧ v = .accv (.loc d) ∧ ob = .acc e k L))
  | .makeSlice t l c => ∃ e z, P.underlying t = some (.slice e) ∧ P.cellsOf e ≠ 0 ∧ zeroCells P e = some z ∧ z.length = P.cellsOf e ∧ (∀ x ∈ z, x.solid) ∧
      match r l, r c with
      | .c (.sc (.int _ a)), .c (.sc (.int _ b)) => 0 ≤ a ∧ a ≤ b ∧ (P.bytesOf e : Int) * b ≤ 281474976710656 ∧ b ≤ 9223372036854775807 ∧
          ((v = .c (.win (.loc d) 0 a.toNat b.toNat) ∧ (ob = .cells e (rep b.toNat z) ∨ ∃ k x, z = [.sc (.int k x)] ∧ ob = .ints e k (List.replicate b.toNat x))) ∨
          (a = b ∧ ∃ k x, z = [.sc (.int k x)] ∧ v = .accv (.loc d) ∧ ob = .acc e k (List.replicate b.toNat x)))
      | _, _ => False
  | _ => False

theorem rep_get {z : List Cell} {n : Nat} {i : Nat} (hz : z ≠ []) (hi : i < n * z.length) : (rep n z)[i]? = z[i % z.length]? := by
  unfold rep
  induction n generalizing i with
  | zero => simp at hi
  | succ n ih =>
    rw [List.replicate_succ, List.flatten_cons]
    have hp : 0 < z.length := List.length_pos_iff.2 hz
    rcases Nat.lt_or_ge i z.length with q | q
    · rw [List.getElem?_append_left q, Nat.mod_eq_of_lt q]
    · rw [List.getElem?_append_right q, ih (by rw [Nat.add_mul] at hi; omega), Nat.mod_eq_sub_mod q]

theorem rep_length (n : Nat) (z : List Cell) : (rep n z).length = n * z.length := by
  unfold rep; simp [List.length_flatten]

theorem rep_cells {z : List Cell} {zs : Array Value} (h : CellsS w ρ S z zs.toList) (hz : z ≠ []) (n : Nat) :
    CellsS w ρ S (rep n z) ((Array.range (n * z.length)).map (fun i => zs[i % zs.size]!)).toList := by
  have e1 := h.1
  have hp : 0 < z.length := List.length_pos_iff.2 hz
  refine ⟨by simp [rep_length], fun i x hi => ?_⟩
  have hlt : i < n * z.length := by
    rcases Nat.lt_or_ge i (n * z.length) with q | q
    · exact q
    · rw [List.getElem?_eq_none (by rw [rep_length]; exact q)] at hi; cases hi
  rw [rep_get hz hlt] at hi
  obtain ⟨u, h1, h2, h3⟩ := h.2 _ x hi
  have e2 : zs.size = z.length := by simpa using e1.symm
  refine ⟨u, ?_, h2, h3⟩
  have hm : i % z.length < zs.size := by rw [e2]; exact Nat.mod_lt _ hp
  have h1' : zs[i % z.length]! = u := by
    rw [getElem!_pos zs _ hm]
    have : zs[i % z.length]? = some u := by simpa using h1
    rw [Array.getElem?_eq_getElem hm] at this
    exact Option.some.inj this
  simp [hlt, e2, h1']

theorem rowS_of_cells {w' : World} {b : Nat} {ty : TypeId} {k : IntKind} {L : List Int} (h : ObjS w' ρ S b (.cells ty (intsOf k L))) : RowS w' b ty k L := by
  obtain ⟨vs, h1, h2⟩ := h
  refine ⟨vs, h1, fun i x hi => ?_⟩
  obtain ⟨u, p1, _, p3⟩ := h2 i (.sc (.int k x)) (by simp [intsOf, hi])
  have : u = .int k x := p3
  rw [← this]; exact p1

theorem newE_run (he : EnvS w ρ S) (hr : ∀ x, VS w ρ S (r x) (η x)) {o : Oper} {d : Nat} {v : AVal} {ob : AObj} (hn : S (.loc d) = none) (h : newE P r d o.op v ob) :
    ∃ u vs ty, (execOp η o).run P w = .ok (.value u) (w.alloc (.cells vs ty)) ∧ EnvS (w.alloc (.cells vs ty)) (setN ρ (.loc d) w.heap.size) (upd S (.loc d) ob) ∧
      VS (w.alloc (.cells vs ty)) (setN ρ (.loc d) w.heap.size) (upd S (.loc d) ob) v u := by
  obtain ⟨dst, op, ty, pos, after, guard⟩ := o
  have fin : ∀ (vs : Array Value) (e : TypeId) (cs : List Cell), CellsS w ρ S cs vs.toList → (ob = .cells e cs ∨ ∃ k L, cs = intsOf k L ∧ ob = .ints e k L) →
      EnvS (w.alloc (.cells vs e)) (setN ρ (.loc d) w.heap.size) (upd S (.loc d) ob) := by
    intro vs e cs hc hob
    have hnew := New.of_alloc w (.loc d) (.cells vs e)
    rcases hob with rfl | ⟨k, L, rfl, rfl⟩
    · exact hnew.env he hn (hc.obj hnew he hn)
    · exact hnew.env he hn (rowS_of_cells (hc.obj hnew he hn))
  have hreal : ∀ e cs, (ob = .cells e cs ∨ ∃ k L, cs = intsOf k L ∧ ob = .ints e k L) → ob.isAcc = false := by
    rintro e cs (rfl | ⟨k, L, -, rfl⟩) <;> rfl
  cases op with
  | alloc e =>
    obtain ⟨z, h1, h2, rfl, rfl⟩ := h
    obtain ⟨zv, h3, h4⟩ := zero_cells (w := w) (ρ := ρ) (S := S) h1 h2
    exact ⟨.pointer (some ⟨w.heap.size, 0, none⟩), zv.cells, e, by simp [execOp, Instr.alloc, run_zeroOf h3, newVar, newRow], fin _ _ _ h4 (.inl rfl), ⟨_, upd_same _ _ _, rfl⟩, by simp [setN]⟩
  | box e x =>
    obtain ⟨h1, rfl, rfl⟩ := h
    have h4 := solid_cells h1 (hr x)
    exact ⟨.pointer (some ⟨w.heap.size, 0, none⟩), (η x).cells, e, by simp [execOp, Instr.box, newVar, newRow], fin _ _ _ h4 (.inl rfl), ⟨_, upd_same _ _ _, rfl⟩, by simp [setN]⟩
  | buildSlice t n ps =>
    obtain ⟨e, z, out, h1, h2, h3, h4, h5, h6, h7, h8⟩ := h
    obtain ⟨zv, h9, h10⟩ := zero_cells (w := w) (ρ := ρ) (S := S) h4 h6
    have hz : z ≠ [] := by rintro rfl; exact h2 h5.symm
    obtain ⟨us, h11, h12⟩ := fillE_run hr ps.toList (rep n z) out _ (rep_cells h10 hz n) h7
    have hl : ∀ (ps : List (Nat × Operand)) (cs out : List Cell), fillE (fun i => some (i * P.cellsOf e, P.cellsOf e)) r cs ps out → out.length = cs.length := by
      intro ps
      induction ps with
      | nil => intro cs out h; simp only [fillE] at h; rw [h]
      | cons p ps ih =>
        obtain ⟨i, x⟩ := p
        rintro cs out ⟨off, size, -, -, q1, q2, q3⟩
        rw [ih _ _ q3]
        simp [Abs.spl, q1]; omega
    have hl2 := hl _ _ _ h7
    rw [rep_length, h5] at hl2
    have hq : us.size = n * P.cellsOf e := by have := h12.1; simp at this; omega
    rw [h5] at h11
    have hrun : (execOp η ⟨dst, .buildSlice t n ps, ty, pos, after, guard⟩).run P w = .ok (.value (.slice (some ⟨w.heap.size, 0, none⟩) n n)) (w.alloc (.cells us e)) := by
      have h3' : ¬ (16777216 < n * P.cellsOf e) := by omega
      have h11' : Instr.fill (fun i => some (i * P.cellsOf e, P.cellsOf e)) ((Array.range (n * P.cellsOf e)).map (fun i => zv.cells[i % zv.cells.size]!)) (ps.map fun p => (p.1, η p.2)).toList = some us := by
        simpa using h11
      by_cases h0 : n * P.cellsOf e = 0
      · have hn0 : n = 0 := by rcases Nat.mul_eq_zero.1 h0 with q | q; exact q; exact absurd q h2
        subst hn0
        have h11'' := h11'
        simp only [Nat.zero_mul, Array.range_zero', Array.map_empty, Array.toList_map] at h11''
        simp [execOp, Instr.buildSlice, run_underlying' h1, run_sizeOf' h2, Array.range_zero', newRow, h11'']
      · simp only [execOp, Instr.buildSlice, Sem.run_bind, run_underlying' h1, run_sizeOf' h2, Result.andThen_ok, Sem.run_ite, run_zeroOf h9, h0, if_false, Sem.run_pure]
        rw [if_neg (by simpa using h3')]
        simp only [Result.andThen_ok, Sem.run_pure, h11', newRow, Sem.run_bind, run_newObj, World.alloc_eq]
    rcases h8 with ⟨rfl, h8⟩ | ⟨hc1, k, L, rfl, rfl, rfl⟩
    · refine ⟨.slice (some ⟨w.heap.size, 0, none⟩) n n, us, e, hrun, fin _ _ _ h12 h8, ⟨_, upd_same _ _ _, hreal _ _ h8⟩, _, _, rfl, Nat.le_refl _, Nat.le_refl _, fun _ => ⟨by simp [setN], e, us.size, ⟨us, by simp only [setN, if_true]; exact heap_alloc_at _ _, rfl⟩, ?_⟩⟩
      rw [hq, Nat.zero_add]
      exact Nat.le_mul_of_pos_right _ (by omega)
    · have hnew := New.of_alloc w (.loc d) (.cells us e)
      have hrow := rowS_of_cells (h12.obj hnew he hn)
      have hLn : L.length = n := by simp [intsOf] at hl2; rw [hl2, hc1, Nat.mul_one]
      refine ⟨.slice (some ⟨w.heap.size, 0, none⟩) n n, us, e, hrun, hnew.env he hn (.inr hrow), e, k, _, upd_same _ _ _, ?_⟩
      by_cases h0 : n = 0
      · exact .inl ⟨List.eq_nil_of_length_eq_zero (by omega), _, by rw [h0]⟩
      · refine .inr ⟨fun q => by rw [q] at hLn; exact h0 hLn.symm, n, by simp [setN, hLn], by omega, by simp only [maxLen]; rw [hc1] at h3; omega, _, by simp only [setN, if_true]; exact heap_alloc_at _ _, by rw [hq, hc1, Nat.mul_one]⟩
  | makeSlice t l c =>
    obtain ⟨e, z, h1, h2, h4, h5, h6, h7⟩ := h
    obtain ⟨zv, h9, h10⟩ := zero_cells (w := w) (ρ := ρ) (S := S) h4 h6
    have hz : z ≠ [] := by rintro rfl; exact h2 h5.symm
    split at h7
    · rename_i kl a kc b el ec
      obtain ⟨g1, g2, g3, g4, h78⟩ := h7
      have e1 := hr l; rw [el] at e1; have e1 := vs_sc e1
      have e2 := hr c; rw [ec] at e2; have e2 := vs_sc e2
      have hrepi : ∀ (k : IntKind) (x : Int) (q : Nat), rep q [Cell.sc (.int k x)] = intsOf k (List.replicate q x) := by
        intro k x q
        unfold rep intsOf
        rw [List.map_replicate]
        induction q with
        | zero => rfl
        | succ q ih => rw [List.replicate_succ, List.flatten_cons, ih]; rfl
      unfold zeroOf at h9
      cases ei : P.info? e with
      | none => rw [ei] at h9; cases h9
      | some i =>
        rw [ei] at h9
        have hz' : i.zero = some zv := h9
        have hsz : P.cellsOf e = i.size := by simp [Program.cellsOf, ei]
        have hby : P.bytesOf e = i.bytes := by simp [Program.bytesOf, ei]
        have hm := run_make (P := P) w t e i zv h1 ei hz' kl kc a b g1 g2 (by rw [← hby]; exact g3) g4
        have hrc := rep_cells h10 hz b.toNat
        rw [h5, hsz] at hrc
        rcases h78 with ⟨rfl, h8⟩ | ⟨rfl, k, x, rfl, rfl, rfl⟩
        · have h8' : ob = .cells e (rep b.toNat z) ∨ ∃ k L, rep b.toNat z = intsOf k L ∧ ob = .ints e k L := by
            rcases h8 with rfl | ⟨k, x, rfl, rfl⟩
            · exact .inl rfl
            · exact .inr ⟨k, _, hrepi k x _, rfl⟩
          refine ⟨.slice (some ⟨w.heap.size, 0, none⟩) a.toNat b.toNat, madeCells zv.cells (b.toNat * i.size), e, by simp only [execOp, e1, e2, Sem.run_bind, hm, Result.andThen_ok, Sem.run_pure], fin _ _ _ hrc h8', ⟨_, upd_same _ _ _, hreal _ _ h8'⟩, _, _, rfl, by omega, Nat.le_refl _, fun _ => ⟨by simp [setN], e, _, ⟨_, by simp only [setN, if_true]; exact heap_alloc_at _ _, rfl⟩, ?_⟩⟩
          rw [Nat.zero_add, madeCells]
          simp only [Array.size_map, Array.size_range]
          exact Nat.le_mul_of_pos_right _ (by omega)
        · have hnew := New.of_alloc w (.loc d) (.cells (madeCells zv.cells (a.toNat * i.size)) e)
          have hrow := rowS_of_cells (by rw [hrepi] at hrc; exact hrc.obj hnew he hn)
          have hi1 : i.size = 1 := by rw [← hsz, ← h5]; rfl
          refine ⟨.slice (some ⟨w.heap.size, 0, none⟩) a.toNat a.toNat, madeCells zv.cells (a.toNat * i.size), e, by simp only [execOp, e1, e2, Sem.run_bind, hm, Result.andThen_ok, Sem.run_pure], hnew.env he hn (.inr hrow), e, k, _, upd_same _ _ _, ?_⟩
          by_cases h0 : a.toNat = 0
          · exact .inl ⟨by rw [h0]; rfl, _, by rw [h0]⟩
          · refine .inr ⟨by simp [h0], a.toNat, by simp [setN], by simp, by simp only [maxLen]; omega, _, by simp only [setN, if_true]; exact heap_alloc_at _ _, by simp [madeCells, hi1]⟩
    · exact h7.elim
  | _ => exact h.elim
end
end Go.Abs

/-
  Stores and appends.
-/
namespace Go.Abs
open Go

theorem setRow_other (w : World) (g : Nat) (cs : Array Value) {b : Nat} (h : b ≠ g) : (w.setRow g cs).heap[b]? = w.heap[b]? := by
  simp only [World.setRow, Array.getElem?_modify]
  rw [if_neg (fun e => h e.symm)]

section
variable {P : Program} {w : World} {ρ : Nm → Nat} {S : Store} {r : Operand → AVal} {η : Operand → Value}

/-- The world with block g written anew. -/
structure Put (w w' : World) (g : Nat) (vs : Array Value) (ty : TypeId) : Prop where
  os : w'.os = w.os
  tape : w'.tape = w.tape
  output : w'.output = w.output
  size : w'.heap.size = w.heap.size
  old : ∀ b, b ≠ g → w'.heap[b]? = w.heap[b]?
  at_ : w'.heap[g]? = some (.cells vs ty (0, 0))

theorem Put.of_setRow {g : Nat} {cur : Array Value} {ty : TypeId} (h : w.heap[g]? = some (.cells cur ty (0, 0))) (cs : Array Value) : Put w (w.setRow g cs) g cs ty :=
  ⟨rfl, rfl, rfl, by simp [World.setRow], fun _ hb => setRow_other w g cs hb, setRow_heap w g cur cs ty (0, 0) h⟩

theorem Put.ext {w' : World} {m : Nm} {vs cur : Array Value} {ty : TypeId} (h : Put w w' (ρ m) vs ty) {o o' : AObj} (hm : S m = some o) (ha : o.isAcc = false) (ha' : o'.isAcc = false)
    (hc : w.heap[ρ m]? = some (.cells cur ty (0, 0))) (hs : vs.size = cur.size) : Ext (fun _ => False) w ρ S w' ρ (upd S m o') where
  os := h.os
  tape := h.tape
  output := h.output
  size := by rw [h.size]; exact Nat.le_refl _
  old b hb hn := h.old b (fun e => hn m o hm (AObj.real_of ha) e.symm)
  nms n q hn hr := by
    by_cases e : n = m
    · subst e; exact .inl ⟨o, hm, AObj.real_of ha, rfl⟩
    · rw [upd_ne S o' e] at hn; exact .inl ⟨q, hn, hr, rfl⟩
  kp n q hn hr := by
    by_cases e : n = m
    · subst e; exact ⟨o', upd_same _ _ _, ha', rfl⟩
    · exact ⟨q, by rw [upd_ne S o' e]; exact hn, hr, rfl⟩
  szs n q _ hn hr t k hk := by
    by_cases e : ρ n = ρ m
    · obtain ⟨us, h1, h2⟩ := hk
      rw [e] at h1 ⊢
      rw [hc] at h1
      injection h1 with h1
      injection h1 with h1 h3
      subst h1 h3
      exact ⟨vs, h.at_, by rw [hs, h2]⟩
    · obtain ⟨us, h1, h2⟩ := hk
      exact ⟨us, by rw [h.old _ e]; exact h1, h2⟩
  acc n t k L _ hn := by
    have e : n ≠ m := fun e => by subst e; rw [hm] at hn; injection hn with hn; subst hn; cases ha
    exact ⟨by rw [upd_ne S o' e]; exact hn, fun _ => rfl⟩
  nx _ h := h.elim

theorem Put.env {w' : World} {m : Nm} {vs cur : Array Value} {ty : TypeId} (h : Put w w' (ρ m) vs ty) (he : EnvS w ρ S) {o o' : AObj} (hm : S m = some o) (ha : o.isAcc = false) (ha' : o'.isAcc = false)
    (hc : w.heap[ρ m]? = some (.cells cur ty (0, 0))) (hs : vs.size = cur.size) (ho : ObjS w' ρ (upd S m o') (ρ m) o') : EnvS w' ρ (upd S m o') where
  inj a b o1 o2 h1 h2 r1 r2 e := by
    have aux : ∀ {a : Nm} {q : AObj}, upd S m o' a = some q → q.real = true → ∃ q', S a = some q' ∧ q'.real = true := by
      intro a q h1 h2
      by_cases e : a = m
      · subst e; exact ⟨o, hm, AObj.real_of ha⟩
      · rw [upd_ne S o' e] at h1; exact ⟨q, h1, h2⟩
    obtain ⟨q1, a1, b1⟩ := aux h1 r1
    obtain ⟨q2, a2, b2⟩ := aux h2 r2
    exact he.inj a b q1 q2 a1 a2 b1 b2 e
  obj a q hq := by
    by_cases e : a = m
    · subst e
      rw [upd_same] at hq
      obtain rfl := Option.some.inj hq
      exact ho
    · rw [upd_ne S o' e] at hq
      have h1 := he.obj a q hq
      by_cases hr : q.real = true
      · refine h1.ext (h.ext hm ha ha' hc hs) (fun x hx => ?_)
        rw [h.old _ (fun e2 => e (he.inj a m q o hq hm hr (AObj.real_of ha) e2))]; exact hx
      · cases q with
        | acc ty k L => cases L with | nil => exact .inl rfl | cons a l => exact absurd rfl hr
        | cells ty cs => exact absurd rfl hr
        | ints ty k L => exact absurd rfl hr

/-- A store. -/
def storeE (P : Program) (S : Store) (t : TypeId) (a x : AVal) (S' : Store) : Prop :=
  match a with
  | .c (.ptr m off) => (∃ ty cs, S m = some (.cells ty cs) ∧ x.solid ∧ P.cellsOf t ≠ 0 ∧ x.cells.length = P.cellsOf t ∧ off + x.cells.length ≤ cs.length ∧ S' = upd S m (.cells ty (spl cs off x.cells))) ∨
      (∃ ty k L y, S m = some (.ints ty k L) ∧ P.cellsOf t = 1 ∧ x = ivl k y ∧ off < L.length ∧ S' = upd S m (.ints ty k (L.set off y)))
  | _ => False

theorem storeE_run (he : EnvS w ρ S) {t : TypeId} {a x : AVal} {u v : Value} {S' : Store} (ha : VS w ρ S a u) (hx : VS w ρ S x v) (h : storeE P S t a x S') :
    ∃ w', (Instr.storeAt t u v).run P w = .ok () w' ∧ EnvS w' ρ S' ∧ Ext (fun _ => False) w ρ S w' ρ S' := by
  unfold storeE at h
  split at h
  · rename_i m off
    obtain ⟨-, rfl⟩ := ha
    rcases h with ⟨ty, cs, hm, h1, h2, h3, h4, rfl⟩ | ⟨ty, k, L, y, hm, h2, rfl, h4, rfl⟩
    · have hsc := solid_cells h1 hx
      obtain ⟨vs, q1, q2⟩ := he.obj m _ hm
      have hlen : cs.length ≤ vs.size := by
        rcases Nat.lt_or_ge vs.size cs.length with q | q
        · obtain ⟨u, p1, _⟩ := q2 vs.size _ (List.getElem?_eq_getElem q)
          rw [Array.getElem?_eq_none (Nat.le_refl _)] at p1; cases p1
        · exact q
      have hl : v.cells.toList.length = x.cells.length := hsc.1.symm
      have hst := run_storeCells_at P (ρ m) off ty v.cells.toList 0 vs w q1 (by rw [hl]; omega) (fun u hu => by
        obtain ⟨i, hi, e⟩ := List.getElem_of_mem hu
        obtain ⟨u', p1, p2, _⟩ := hsc.2 i _ (List.getElem?_eq_getElem (by omega))
        rw [List.getElem?_eq_getElem hi] at p1
        obtain rfl := Option.some.inj p1
        rw [← e]; exact p2)
      rw [Nat.add_zero, hl] at hst
      have hput := Put.of_setRow q1 (vs.toList.take off ++ v.cells.toList ++ vs.toList.drop (off + x.cells.length)).toArray
      generalize hW : w.setRow (ρ m) (vs.toList.take off ++ v.cells.toList ++ vs.toList.drop (off + x.cells.length)).toArray = W at hst hput
      have hsz : (vs.toList.take off ++ v.cells.toList ++ vs.toList.drop (off + x.cells.length)).toArray.size = vs.size := by
        simp only [List.size_toArray, List.length_append, List.length_take, List.length_drop, hl, Array.length_toList]; omega
      have hext := hput.ext hm rfl (o' := .cells ty (spl cs off x.cells)) rfl q1 hsz
      refine ⟨W, ?_, hput.env he hm rfl rfl q1 hsz ⟨_, hput.at_, fun i c hi => ?_⟩, hext⟩
      · have e1 : v.cells.size = P.cellsOf t := by rw [← h3, ← hl]; simp
        simp only [Instr.storeAt, Sem.run_bind, Instr.sureAddr, Sem.run_pure, Result.andThen_ok, storeVar, run_sizeOf' h2, Sem.run_ite]
        rw [if_neg (by simp [e1])]
        exact hst
      · simp only [List.append_assoc, List.getElem?_toArray]
        unfold Abs.spl at hi
        rw [List.append_assoc] at hi
        rcases Nat.lt_or_ge i off with g | g
        · rw [List.getElem?_append_left (by simp; omega), List.getElem?_take_of_lt g] at hi
          rw [List.getElem?_append_left (by simp; omega), List.getElem?_take_of_lt g]
          obtain ⟨u, p1, p2, p3⟩ := q2 i c hi
          exact ⟨u, by simpa using p1, p2, p3.ext hext⟩
        · have e3 : (vs.toList.take off).length = (cs.take off).length := by simp; omega
          have e4 : (cs.take off).length = off := by simp; omega
          rw [List.getElem?_append_right (by omega)] at hi
          rw [List.getElem?_append_right (by omega), e3]
          rw [e4] at hi ⊢
          rcases Nat.lt_or_ge i (off + x.cells.length) with g2 | g2
          · rw [List.getElem?_append_left (by omega)] at hi
            rw [List.getElem?_append_left (by omega)]
            obtain ⟨u, p1, p2, p3⟩ := hsc.2 _ c hi
            exact ⟨u, p1, p2, p3.ext hext⟩
          · rw [List.getElem?_append_right (by omega), List.getElem?_drop] at hi
            rw [List.getElem?_append_right (by omega), List.getElem?_drop, hl]
            obtain ⟨u, p1, p2, p3⟩ := q2 _ c hi
            exact ⟨u, by simpa using p1, p2, p3.ext hext⟩
    · have ev : v = .int k y := vs_sc hx
      subst ev
      obtain ⟨vs, q1, q2⟩ := he.obj m _ hm
      have hlen : off < vs.size := by
        rcases Nat.lt_or_ge off vs.size with q | q
        · exact q
        · have := q2 off _ (List.getElem?_eq_getElem h4)
          rw [Array.getElem?_eq_none q] at this; cases this
      have hst := run_storeCells_at P (ρ m) off ty [.int k y] 0 vs w q1 (by simp; omega) (fun u hu => by simp at hu; subst hu; rfl)
      rw [Nat.add_zero] at hst
      have hput := Put.of_setRow q1 (vs.toList.take off ++ [Value.int k y] ++ vs.toList.drop (off + 1)).toArray
      have hst' : (storeCells ⟨ρ m, off, none⟩ [Value.int k y]).run P w = .ok () (w.setRow (ρ m) (vs.toList.take off ++ [Value.int k y] ++ vs.toList.drop (off + 1)).toArray) := hst
      generalize hW : w.setRow (ρ m) (vs.toList.take off ++ [Value.int k y] ++ vs.toList.drop (off + 1)).toArray = W at hst' hput
      have hsz : (vs.toList.take off ++ [Value.int k y] ++ vs.toList.drop (off + 1)).toArray.size = vs.size := by
        simp only [List.size_toArray, List.length_append, List.length_take, List.length_drop, Array.length_toList, List.length_cons, List.length_nil]; omega
      have hext := hput.ext hm rfl (o' := .ints ty k (L.set off y)) rfl q1 hsz
      refine ⟨W, ?_, hput.env he hm rfl rfl q1 hsz ⟨_, hput.at_, fun i c hi => ?_⟩, hext⟩
      · have e2 : P.cellsOf t ≠ 0 := by omega
        have e3 : #[Value.int k y].size = P.cellsOf t := by simp [h2]
        simp only [Instr.storeAt, Sem.run_bind, Instr.sureAddr, Sem.run_pure, Result.andThen_ok, storeVar, run_sizeOf' e2, Value.cells, e3, ne_eq, not_true_eq_false, if_false]
        exact hst'
      · simp only [List.append_assoc, List.getElem?_toArray]
        rw [List.getElem?_set] at hi
        have e4 : (vs.toList.take off).length = off := by simp; omega
        by_cases g : off = i
        · subst g
          simp only [if_true, h4] at hi
          obtain rfl := Option.some.inj hi
          rw [List.getElem?_append_right (by omega), e4, Nat.sub_self]; rfl
        · rw [if_neg g] at hi
          rcases Nat.lt_or_ge i off with g1 | g1
          · rw [List.getElem?_append_left (by omega), List.getElem?_take_of_lt g1]
            simpa using q2 i c hi
          · rw [List.getElem?_append_right (by omega), List.getElem?_append_right (by simp; omega), List.getElem?_drop, e4]
            have := q2 i c hi
            rw [show off + 1 + (i - off - [Value.int k y].length) = i by simp; omega]
            simpa using this
  · exact h.elim
end
end Go.Abs

/-
  Appends to what a function gathers.
-/
namespace Go.Abs
open Go

theorem upd_self {S : Store} {m : Nm} {o : AObj} (h : S m = some o) : upd S m o = S := by
  funext n; unfold upd; split
  · rename_i e; rw [e, h]
  · rfl

section
variable {P : Program} {w : World} {ρ : Nm → Nat} {S : Store} {r : Operand → AVal} {η : Operand → Value}

/-- What is appended: whole numbers. -/
def srcE (S : Store) (x : AVal) (k : IntKind) (Y : List Int) : Prop :=
  match x with
  | .c (.ints k' L) => k' = k ∧ Y = L
  | .c (.intc k' L n) => k' = k ∧ n ≤ L.length ∧ Y = L.take n
  | .c (.win m off len _) => ∃ ty, (∃ L, S m = some (.ints ty k L) ∧ off + len ≤ L.length ∧ Y = (L.drop off).take len) ∨ (∃ cs, S m = some (.cells ty cs) ∧ off + len ≤ cs.length ∧ (cs.drop off).take len = intsOf k Y)
  | .c (.sc (.slice none 0 0)) => Y = []
  | _ => False

theorem srcE_held (he : EnvS w ρ S) {x : AVal} {u : Value} {k : IntKind} {Y : List Int} (hx : VS w ρ S x u) (h : srcE S x k Y) :
    (Y = [] ∧ ∃ A c, u = .slice A 0 c) ∨ (Y ≠ [] ∧ ∃ b off c, u = .slice (some ⟨b, off, none⟩) Y.length c ∧ ∀ (j : Nat) u', (Y.map (Value.int k))[j]? = some u' → w.cell? ⟨b, off + j, none⟩ = some u') := by
  unfold srcE at h
  split at h
  · rename_i k' L
    obtain ⟨rfl, rfl⟩ := h
    obtain ⟨A, cap, rfl, h1, h2, h3⟩ := hx
    cases Y with
    | nil => exact .inl ⟨rfl, A, cap, rfl⟩
    | cons a l =>
      obtain ⟨b, off, rfl, -, hc⟩ := h3 (by simp)
      refine .inr ⟨by simp, b, off, cap, rfl, fun j u' hj => ?_⟩
      rw [List.getElem?_map, Option.map_eq_some_iff] at hj
      obtain ⟨y, e1, rfl⟩ := hj
      exact hc j y e1
  · rename_i k' L n
    obtain ⟨rfl, hn, rfl⟩ := h
    obtain ⟨A, cap, rfl, h1, h2, h3⟩ := hx
    by_cases h0 : n = 0
    · subst h0; exact .inl ⟨by simp, A, cap, rfl⟩
    · obtain ⟨b, off, rfl, -, hc⟩ := h3 (by omega)
      refine .inr ⟨by intro e; have q := congrArg List.length e; rw [List.length_take, Nat.min_eq_left hn, List.length_nil] at q; omega, b, off, cap, by rw [List.length_take, Nat.min_eq_left hn], fun j u' hj => ?_⟩
      rw [List.getElem?_map, Option.map_eq_some_iff] at hj
      obtain ⟨y, e1, rfl⟩ := hj
      have hlt : j < n := by
        rcases Nat.lt_or_ge j n with q | q
        · exact q
        · rw [List.getElem?_eq_none (by simp; omega)] at e1; cases e1
      rw [List.getElem?_take_of_lt hlt] at e1
      exact hc j y e1
  · rename_i m off len cm
    obtain ⟨⟨o, ho, ha⟩, A, cap, rfl, h1, h2, h3⟩ := hx
    by_cases h0 : len = 0
    · subst h0
      refine .inl ⟨?_, A, cap, rfl⟩
      obtain ⟨ty, ⟨L, -, -, rfl⟩ | ⟨cs, -, -, e⟩⟩ := h
      · simp
      · simp [intsOf] at e; exact e
    · obtain ⟨rfl, -⟩ := h3 (by omega)
      obtain ⟨ty, ⟨L, hm, hl, rfl⟩ | ⟨cs, hm, hl, e⟩⟩ := h
      · obtain ⟨vs, q1, q2⟩ := he.obj m _ hm
        refine .inr ⟨by intro e; have := congrArg List.length e; simp at this; omega, ρ m, off, cap, by simp; omega, fun j u' hj => ?_⟩
        rw [List.getElem?_map, Option.map_eq_some_iff] at hj
        obtain ⟨y, e1, rfl⟩ := hj
        have hlt : j < len := by
          rcases Nat.lt_or_ge j len with q | q
          · exact q
          · rw [List.getElem?_eq_none (by simp; omega)] at e1; cases e1
        rw [List.getElem?_take_of_lt hlt, List.getElem?_drop] at e1
        rw [cell_of_heap q1]; exact q2 _ y e1
      · obtain ⟨vs, q1, q2⟩ := he.obj m _ hm
        have hlen : Y.length = len := by have := congrArg List.length e; simp [intsOf] at this; omega
        refine .inr ⟨by rintro rfl; simp at hlen; omega, ρ m, off, cap, by rw [hlen], fun j u' hj => ?_⟩
        rw [List.getElem?_map, Option.map_eq_some_iff] at hj
        obtain ⟨y, e1, rfl⟩ := hj
        have hlt : j < len := by
          rcases Nat.lt_or_ge j len with q | q
          · exact q
          · rw [List.getElem?_eq_none (by omega)] at e1; cases e1
        have e2 : ((cs.drop off).take len)[j]? = some (.sc (.int k y)) := by rw [e]; simp [intsOf, e1]
        rw [List.getElem?_take_of_lt hlt, List.getElem?_drop] at e2
        obtain ⟨u, p1, p2, p3⟩ := q2 _ _ e2
        have : u = .int k y := p3
        rw [cell_of_heap q1, ← this]; exact p1
  · subst h; have := vs_sc hx; subst this; exact .inl ⟨rfl, none, 0, rfl⟩
  · exact h.elim

theorem run_append_none {t e : TypeId} (ht : P.underlying t = some (.slice e)) (h1 : P.cellsOf e ≠ 0) (b A : Option Addr) (n cap c : Nat) (hn : n ≤ cap) (ty : TypeId) :
    (Builtin.append_ #[t, t] ty #[.slice b n cap, .slice A 0 c]).run P w = .ok (.slice b n cap) w := by
  have hl : ∀ a : Addr, (loadCells a 0).run P w = .ok #[] w := fun a => by simp [loadCells, loadCellsFrom]
  cases A <;> cases b <;> simp [Builtin.append_, run_underlying' ht, run_sizeOf' h1, Builtin.lenOf, hn, Builtin.firstCells, hl, storeCells]

theorem run_append_zero {t e : TypeId} (ht : P.underlying t = some (.slice e)) {i : TypeInfo} (hi : P.info? e = some i) (a0 a : Addr) (m c : Nat) (hm : 0 < m) (hb : m * i.bytes ≤ 140737488355328) (ty : TypeId) :
    (Builtin.append_ #[t, t] ty #[.slice (some a0) 0 0, .slice (some a) m c]).run P w = (Builtin.append_ #[t, t] ty #[.slice none 0 0, .slice (some a) m c]).run P w := by
  have hn : Builtin.nextslicecap m 0 = m := nextslicecap_zero hm
  have h1 : ¬ 281474976710656 < m * i.bytes := by omega
  have hm0 : ¬ m = 0 := by omega
  simp [Builtin.append_, run_underlying' ht, sizeOf, typeInfo, hi, Builtin.lenOf, hn, h1, hm0, Builtin.firstCells, loadCells, loadCellsFrom]

/-- What an append leaves. -/
structure Grew (w : World) (ρ : Nm → Nat) (S : Store) (n : Nm) (e : TypeId) (k : IntKind) (L : List Int) (v : Value) (w' : World) (ρ' : Nm → Nat) : Prop where
  env : EnvS w' ρ' (upd S n (.acc e k L))
  ext : Ext (fun m => m = n) w ρ S w' ρ' (upd S n (.acc e k L))
  val : VS w' ρ' (upd S n (.acc e k L)) (.accv n) v

theorem append_grew (he : EnvS w ρ S) {t e ty : TypeId} (ht : P.underlying t = some (.slice e)) (hc1 : P.cellsOf e = 1) {k : IntKind} (hz : zeroOf P e = some (.int k 0)) {n : Nm} {L Y : List Int}
    (hn : (S n = none ∧ L = []) ∨ S n = some (.acc e k L)) {sv xv : Value}
    (hsv0 : (L = [] ∧ ∃ A, sv = .slice A 0 0) ∨ (L ≠ [] ∧ ∃ cap, sv = .slice (some ⟨ρ n, 0, none⟩) L.length cap ∧ L.length ≤ cap ∧ cap ≤ maxLen ∧ SzX w (ρ n) e cap))
    {x : AVal} (hx : VS w ρ S x xv) (hsrc : srcE S x k Y) (hb : (L.length + Y.length) * P.bytesOf e ≤ 140737488355328) (h63 : L.length + Y.length ≤ maxLen) :
    ∃ v w' ρ', (Builtin.append_ #[t, t] ty #[sv, xv]).run P w = .ok v w' ∧ Grew w ρ S n e k (L ++ Y) v w' ρ' := by
  rcases srcE_held he hx hsrc with ⟨rfl, A, c, rfl⟩ | ⟨hY, b, off, c, rfl, hcell⟩
  · -- nothing is appended
    rw [List.append_nil]
    have hsv := hsv0
    have hv : ∃ v, (Builtin.append_ #[t, t] ty #[sv, .slice A 0 c]).run P w = .ok v w ∧ v = sv := by
      rcases hsv with ⟨-, A2, rfl⟩ | ⟨-, cap, rfl, h1, -⟩
      · exact ⟨_, run_append_none ht (by omega) A2 A 0 0 c (Nat.le_refl _) ty, rfl⟩
      · exact ⟨_, run_append_none ht (by omega) _ A _ cap c h1 ty, rfl⟩
    obtain ⟨v, hv, rfl⟩ := hv
    refine ⟨v, w, ρ, hv, ?_⟩
    rcases hn with ⟨h1, rfl⟩ | h1
    · refine ⟨⟨fun a b o1 o2 e1 e2 r1 r2 q => ?_, fun a o ha => ?_⟩, ⟨rfl, rfl, rfl, Nat.le_refl _, fun _ _ _ => rfl, fun a o ha hr => ?_, fun a o ha hr => ?_, fun _ _ _ _ _ _ _ h => h, fun a ty' k' L' hX ha => ?_, fun m hm o ho => ?_⟩, ?_⟩
      · by_cases q1 : a = n
        · subst q1; rw [upd_same] at e1; obtain rfl := Option.some.inj e1; cases r1
        · by_cases q2 : b = n
          · subst q2; rw [upd_same] at e2; obtain rfl := Option.some.inj e2; cases r2
          · rw [upd_ne _ _ q1] at e1; rw [upd_ne _ _ q2] at e2; exact he.inj a b o1 o2 e1 e2 r1 r2 q
      · by_cases q1 : a = n
        · subst q1; rw [upd_same] at ha; obtain rfl := Option.some.inj ha; exact .inl rfl
        · rw [upd_ne _ _ q1] at ha
          exact (he.obj a o ha).ext (X := fun m => m = n) (w' := w) (ρ' := ρ) ⟨rfl, rfl, rfl, Nat.le_refl _, fun _ _ _ => rfl, fun a o ha hr => by
            by_cases q1 : a = n
            · subst q1; rw [upd_same] at ha; obtain rfl := Option.some.inj ha; cases hr
            · rw [upd_ne _ _ q1] at ha; exact .inl ⟨o, ha, hr, rfl⟩, fun a o ha hr => by
            have q1 : a ≠ n := fun q1 => by subst q1; rw [h1] at ha; cases ha
            exact ⟨o, by rw [upd_ne _ _ q1]; exact ha, hr, rfl⟩, fun _ _ _ _ _ _ _ h => h, fun a ty' k' L' hX ha => ⟨by rw [upd_ne _ _ hX]; exact ha, fun _ => rfl⟩, fun m hm o ho => by subst hm; rw [h1] at ho; cases ho⟩ (fun x hx => hx)
      · by_cases q1 : a = n
        · subst q1; rw [upd_same] at ha; obtain rfl := Option.some.inj ha; cases hr
        · rw [upd_ne _ _ q1] at ha; exact .inl ⟨o, ha, hr, rfl⟩
      · have q1 : a ≠ n := fun q1 => by subst q1; rw [h1] at ha; cases ha
        exact ⟨o, by rw [upd_ne _ _ q1]; exact ha, hr, rfl⟩
      · exact ⟨by rw [upd_ne _ _ hX]; exact ha, fun _ => rfl⟩
      · subst hm; rw [h1] at ho; cases ho
      · rcases hsv with ⟨-, hA⟩ | ⟨h, -⟩
        · exact ⟨e, k, [], upd_same _ _ _, .inl ⟨rfl, hA⟩⟩
        · exact absurd rfl h
    · rw [show Grew w ρ S n e k L v w ρ ↔ (EnvS w ρ S ∧ Ext (fun m => m = n) w ρ S w ρ S ∧ VS w ρ S (.accv n) v) from by
        constructor
        · rintro ⟨a, b, c⟩; rw [upd_self h1] at a b c; exact ⟨a, b, c⟩
        · rintro ⟨a, b, c⟩; exact ⟨by rw [upd_self h1]; exact a, by rw [upd_self h1]; exact b, by rw [upd_self h1]; exact c⟩]
      refine ⟨he, ⟨rfl, rfl, rfl, Nat.le_refl _, fun _ _ _ => rfl, fun _ o h hr => .inl ⟨o, h, hr, rfl⟩, fun _ o h hr => ⟨o, h, hr, rfl⟩, fun _ _ _ _ _ _ _ h => h, fun _ _ _ _ _ h => ⟨h, fun _ => rfl⟩, fun m hm o ho => ?_⟩, e, k, L, h1, hsv⟩
      subst hm; rw [h1] at ho; obtain rfl := Option.some.inj ho; rfl
  · -- something is
    cases ei : P.info? e with
    | none => simp [zeroOf, ei] at hz
    | some i =>
      have hz' : i.zero = some (.int k 0) := by simpa [zeroOf, ei] using hz
      have hsz : i.size = 1 := by simpa [Program.cellsOf, ei] using hc1
      have hby : P.bytesOf e = i.bytes := by simp [Program.bytesOf, ei]
      obtain ⟨sv', hsv, hrun0⟩ : ∃ sv', ((L = [] ∧ sv' = .slice none 0 0) ∨ (L ≠ [] ∧ ∃ cap, sv' = .slice (some ⟨ρ n, 0, none⟩) L.length cap ∧ L.length ≤ cap ∧ cap ≤ maxLen ∧ SzX w (ρ n) e cap)) ∧
          (Builtin.append_ #[t, t] ty #[sv, .slice (some ⟨b, off, none⟩) Y.length c]).run P w = (Builtin.append_ #[t, t] ty #[sv', .slice (some ⟨b, off, none⟩) Y.length c]).run P w := by
        rcases hsv0 with ⟨rfl, A, rfl⟩ | h
        · refine ⟨_, .inl ⟨rfl, rfl⟩, ?_⟩
          cases A with
          | none => rfl
          | some a0 => exact run_append_zero ht ei a0 ⟨b, off, none⟩ Y.length c (List.length_pos_iff.2 hY) (by rw [← hby]; simpa using hb) ty
        · exact ⟨_, .inr h, rfl⟩
      rw [hrun0]
      have hown : w.ownsRow 0 e 1 sv' L.length (L.map (Value.int k)) := by
        refine ⟨by simp, ?_⟩
        rcases hsv with ⟨rfl, rfl⟩ | ⟨hL, cap, rfl, h1, h2, vs, h3, h4⟩
        · exact .inl ⟨rfl, rfl⟩
        · refine .inr ⟨ρ n, cap, vs, rfl, Nat.zero_le _, h3, h1, h2, by rw [h4, Nat.mul_one], ?_⟩
          have hn' : S n = some (.acc e k L) := by rcases hn with ⟨-, q⟩ | q; exact absurd q hL; exact q
          rcases he.obj n _ hn' with q | ⟨vs', q1, q2⟩
          · exact absurd q hL
          · rw [h3] at q1
            injection q1 with q1
            injection q1 with q1 _ _
            subst q1
            apply List.ext_getElem?
            intro j
            rw [Nat.mul_one]
            rcases Nat.lt_or_ge j L.length with g | g
            · rw [List.getElem?_take_of_lt g, List.getElem?_map, List.getElem?_eq_getElem g]
              simpa using q2 j _ (List.getElem?_eq_getElem g)
            · rw [List.getElem?_eq_none (by simp; omega), List.getElem?_eq_none (by simp; omega)]
      obtain ⟨v', w', hrun, hown', hg, -, hat⟩ := run_append_own_at (P := P) w 0 t ty e i (.int k 0) 1 i.bytes ht ei hz' hsz rfl rfl (by omega) sv' L.length (L.map (Value.int k)) hown ⟨b, off, none⟩ Y.length c (Y.map (Value.int k)) (by simp)
        (fun j u hj => by rw [add_pl]; exact hcell j u hj) (fun u hu => by simp at hu; obtain ⟨y, -, rfl⟩ := hu; rfl) h63 (by rw [← hby]; exact hb) (Nat.zero_le _)
      have hpos : 0 < Y.length := List.length_pos_iff.2 hY
      rcases hown'.2 with ⟨rfl, q⟩ | ⟨g, cap', cur, rfl, -, hg1, hg2, hg3, hg4, hg5⟩
      · omega
      have hgat : (L ≠ [] ∧ g = ρ n) ∨ g = w.heap.size := by
        rcases hat with q | q
        · rcases hsv with ⟨rfl, rfl⟩ | ⟨hL, cap, rfl, -⟩
          · simp [Value.ownBlock] at q
          · simp [Value.ownBlock] at q; exact .inl ⟨hL, q⟩
        · simp [Value.ownBlock] at q; exact .inr q
      have hne : L ++ Y ≠ [] := by simp [hY]
      have hrow : RowS w' g e k (L ++ Y) := by
        refine ⟨cur, hg1, fun j y hj => ?_⟩
        have e1 : ((L ++ Y).map (Value.int k))[j]? = some (.int k y) := by rw [List.getElem?_map, hj]; rfl
        rw [List.map_append, ← hg5] at e1
        have hlt : j < (L.length + Y.length) * 1 := by
          rcases Nat.lt_or_ge j ((L.length + Y.length) * 1) with q | q
          · exact q
          · rw [List.getElem?_eq_none (by simp; omega)] at e1; cases e1
        rw [List.getElem?_take_of_lt hlt] at e1
        simpa using e1
      have hblk : ∀ m o, m ≠ n → S m = some o → o.real = true → w'.heap[ρ m]? = w.heap[ρ m]? ∧ ρ m ≠ g := by
        intro m o hm ho hr
        have hlt := he.lt ho hr
        have hnb : some (ρ m) ≠ sv'.ownBlock := by
          rcases hsv with ⟨rfl, rfl⟩ | ⟨hL, cap, rfl, -⟩
          · simp [Value.ownBlock]
          · have hn' : S n = some (.acc e k L) := by rcases hn with ⟨-, q⟩ | q; exact absurd q hL; exact q
            simp only [Value.ownBlock, ne_eq, Option.some.injEq]
            intro q
            exact hm (he.inj m n o _ ho hn' hr (by cases L with | nil => exact absurd rfl hL | cons a l => rfl) q)
        refine ⟨hg.block _ hlt hnb, ?_⟩
        rcases hgat with ⟨hL, rfl⟩ | rfl
        · have hn' : S n = some (.acc e k L) := by rcases hn with ⟨-, q⟩ | q; exact absurd q hL; exact q
          intro q
          exact hm (he.inj m n o _ ho hn' hr (by cases L with | nil => exact absurd rfl hL | cons a l => rfl) q)
        · omega
      have hext : Ext (fun m => m = n) w ρ S w' (setN ρ n g) (upd S n (.acc e k (L ++ Y))) := by
        refine ⟨hg.os, hg.tape, hg.output, hg.size, fun bb hbb hnn => hg.block bb hbb (fun q => ?_), fun m o hm hr => ?_, fun m o hm ha => ?_, fun m o hX hm hr ty' q hq => ?_, fun m ty' k' L' hX hm => ?_, fun m hX o hm => ?_⟩
        · rcases hsv with ⟨rfl, rfl⟩ | ⟨hL, cap, rfl, -⟩
          · simp [Value.ownBlock] at q
          · have hn' : S n = some (.acc e k L) := by rcases hn with ⟨-, q⟩ | q; exact absurd q hL; exact q
            simp [Value.ownBlock] at q
            exact hnn n _ hn' (by cases L with | nil => exact absurd rfl hL | cons a l => rfl) q.symm
        · by_cases q1 : m = n
          · subst q1
            rcases hgat with ⟨hL, rfl⟩ | rfl
            · have hn' : S m = some (.acc e k L) := by rcases hn with ⟨-, q⟩ | q; exact absurd q hL; exact q
              exact .inl ⟨_, hn', by cases L with | nil => exact absurd rfl hL | cons a l => rfl, by simp [setN]⟩
            · exact .inr (by simp [setN])
          · rw [upd_ne _ _ q1] at hm; exact .inl ⟨o, hm, hr, by simp [setN, q1]⟩
        · have q1 : m ≠ n := fun q1 => by
            subst q1
            rcases hn with ⟨q, -⟩ | q
            · rw [q] at hm; cases hm
            · rw [q] at hm; obtain rfl := Option.some.inj hm; cases ha
          exact ⟨o, by rw [upd_ne _ _ q1]; exact hm, ha, by simp [setN, q1]⟩
        · obtain ⟨us, p1, p2⟩ := hq
          exact ⟨us, by rw [(hblk m o hX hm hr).1]; exact p1, p2⟩
        · exact ⟨by rw [upd_ne _ _ hX]; exact hm, fun _ => by simp [setN, show m ≠ n from hX]⟩
        · subst hX
          rcases hn with ⟨q, -⟩ | q
          · rw [q] at hm; cases hm
          · rw [q] at hm; obtain rfl := Option.some.inj hm; rfl
      refine ⟨_, w', setN ρ n g, hrun, ⟨⟨fun m m' o1 o2 e1 e2 r1 r2 q => ?_, fun m o hm => ?_⟩, hext, e, k, L ++ Y, upd_same _ _ _, .inr ⟨hne, cap', by simp [setN], by simpa using hg2, hg3, cur, by simpa [setN] using hg1, by rw [hg4, Nat.mul_one]⟩⟩⟩
      · by_cases q1 : m = n <;> by_cases q2 : m' = n
        · rw [q1, q2]
        · rw [upd_ne _ _ q2] at e2
          simp only [setN, q1, q2, if_true, if_false] at q
          exact absurd q.symm (hblk m' o2 q2 e2 r2).2
        · rw [upd_ne _ _ q1] at e1
          simp only [setN, q1, q2, if_true, if_false] at q
          exact absurd q (hblk m o1 q1 e1 r1).2
        · rw [upd_ne _ _ q1] at e1; rw [upd_ne _ _ q2] at e2
          simp only [setN, q1, q2, if_false] at q
          exact he.inj m m' o1 o2 e1 e2 r1 r2 q
      · by_cases q1 : m = n
        · subst q1
          rw [upd_same] at hm
          obtain rfl := Option.some.inj hm
          exact .inr (by simpa [setN] using hrow)
        · rw [upd_ne _ _ q1] at hm
          simp only [setN, q1, if_false]
          have ho := he.obj m o hm
          by_cases hr : o.real = true
          · exact ho.ext hext (fun x hx => by rw [(hblk m o q1 hm hr).1]; exact hx)
          · cases o with
            | acc ty k L => cases L with | nil => exact .inl rfl | cons a l => exact absurd rfl hr
            | cells ty cs => exact absurd rfl hr
            | ints ty k L => exact absurd rfl hr
/-- An append that has room where it stands. -/
theorem append_room (he : EnvS w ρ S) {t e ty : TypeId} (ht : P.underlying t = some (.slice e)) (hc1 : P.cellsOf e = 1) {k : IntKind} (hz : zeroOf P e = some (.int k 0)) {m : Nm} {L Y : List Int} {len cm : Nat}
    (hm : S m = some (.ints e k L)) (h1 : len + Y.length ≤ cm) (h2 : len + Y.length ≤ L.length) {sv xv : Value} (hs : VS w ρ S (.c (.win m 0 len cm)) sv) {x : AVal} (hx : VS w ρ S x xv) (hsrc : srcE S x k Y) :
    ∃ v w', (Builtin.append_ #[t, t] ty #[sv, xv]).run P w = .ok v w' ∧ EnvS w' ρ (upd S m (.ints e k (L.take len ++ Y ++ L.drop (len + Y.length)))) ∧
      Ext (fun _ => False) w ρ S w' ρ (upd S m (.ints e k (L.take len ++ Y ++ L.drop (len + Y.length)))) ∧ VS w' ρ (upd S m (.ints e k (L.take len ++ Y ++ L.drop (len + Y.length)))) (.c (.win m 0 (len + Y.length) cm)) v := by
  obtain ⟨-, A, cap, rfl, q1, q2, q3⟩ := hs
  rcases srcE_held he hx hsrc with ⟨rfl, A', c, rfl⟩ | ⟨hY, b, off, c, rfl, hcell⟩
  · have e1 : L.take len ++ [] ++ L.drop (len + ([] : List Int).length) = L := by simp
    rw [e1, upd_self hm]
    exact ⟨_, w, run_append_none ht (by omega) A A' len cap c (by omega) ty, he, Ext.refl _ _ _, ⟨_, hm, rfl⟩, A, cap, rfl, by simpa using q1, q2, q3⟩
  · have hpos : 0 < Y.length := List.length_pos_iff.2 hY
    obtain ⟨rfl, ty2, sz, ⟨cur2, g1, g2⟩, g3⟩ := q3 (by omega)
    obtain ⟨cur, f1, f2⟩ := he.obj m _ hm
    rw [f1] at g1
    injection g1 with g1
    injection g1 with g1 g4
    subst g1 g4
    cases ei : P.info? e with
    | none => simp [zeroOf, ei] at hz
    | some i =>
      have hsz : i.size = 1 := by simpa [Program.cellsOf, ei] using hc1
      have hrun := run_append_room (P := P) w t ty e i ht ei (ρ m) len cap cur f1 ⟨b, off, none⟩ Y.length c (Y.map (Value.int k)) (by simp [hsz]) (fun j u hj => by rw [add_pl]; exact hcell j u hj)
        (fun u hu => by simp at hu; obtain ⟨y, -, rfl⟩ := hu; rfl) (by omega) (by simp [hsz]; omega)
      have hput := Put.of_setRow f1 (cur.toList.take (len * i.size) ++ Y.map (Value.int k) ++ cur.toList.drop (len * i.size + (Y.map (Value.int k)).length)).toArray
      have hsize : (cur.toList.take (len * i.size) ++ Y.map (Value.int k) ++ cur.toList.drop (len * i.size + (Y.map (Value.int k)).length)).toArray.size = cur.size := by
        simp [hsz]; omega
      have hext := hput.ext (o' := .ints e k (L.take len ++ Y ++ L.drop (len + Y.length))) hm rfl rfl f1 hsize
      refine ⟨_, _, hrun, hput.env he hm rfl rfl f1 hsize ⟨_, hput.at_, fun j y hj => ?_⟩, hext, ⟨_, upd_same _ _ _, rfl⟩, _, cap, rfl, h1, q2, fun hc => ⟨rfl, e, _, ⟨_, hput.at_, hsize⟩, by omega⟩⟩
      simp only [hsz, Nat.mul_one, List.length_map, List.getElem?_toArray]
      rw [List.append_assoc] at hj ⊢
      rcases Nat.lt_or_ge j len with h | h
      · rw [List.getElem?_append_left (by simp; omega), List.getElem?_take_of_lt h] at hj
        rw [List.getElem?_append_left (by simp; omega), List.getElem?_take_of_lt h]
        simpa using f2 j y hj
      · rw [List.getElem?_append_right (by simp; omega), List.length_take, Nat.min_eq_left (by omega)] at hj
        rw [List.getElem?_append_right (by simp; omega), List.length_take, Nat.min_eq_left (by simp; omega)]
        rcases Nat.lt_or_ge (j - len) Y.length with h' | h'
        · rw [List.getElem?_append_left h'] at hj
          rw [List.getElem?_append_left (by simpa using h'), List.getElem?_map, hj]; rfl
        · rw [List.getElem?_append_right h', List.getElem?_drop] at hj
          rw [List.getElem?_append_right (by simpa using h'), List.getElem?_drop, List.length_map]
          have := f2 _ y hj
          simpa using this
end
end Go.Abs
