/-
  An abstract machine for this program, and contracts of its functions: part Mac (no statement by itself).
-/
import Derived.Test.YtdbjhcgogmfghaaDoorMab
set_option linter.unusedVariables false
set_option linter.unusedSimpArgs false
set_option linter.unnecessarySimpa false

/-
  One operation, whatever it is: what it does to a state; that the program does so.
-/
namespace Go.Abs
open Go

def updL : Store → List (Nm × AObj) → Store
  | S, [] => S
  | S, p :: ups => updL (upd S p.1 p.2) ups

def VSs (w : World) (ρ : Nm → Nat) (S : Store) (xs : List AVal) (vs : List Value) : Prop :=
  xs.length = vs.length ∧ ∀ (i : Nat) (x : AVal), xs[i]? = some x → ∃ u, vs[i]? = some u ∧ VS w ρ S x u

inductive Rch (Φ : Store) (args : List AVal) : Nm → Prop
  | base {x : AVal} {m : Nm} (h : x ∈ args) (hm : x.at m) : Rch Φ args m
  | step {m q : Nm} {o : AObj} {c : Cell} (h : Rch Φ args m) (ho : Φ m = some o) (hc : c ∈ o.cls) (hq : c.at q) : Rch Φ args q
theorem Rch.of {Φ : Store} {args : List AVal} {m : Nm} (h : ∃ x ∈ args, x.at m) : Rch Φ args m := by obtain ⟨x, hx, hm⟩ := h; exact .base hx hm
theorem Rch.mono {Φ : Store} {xs ys : List AVal} (hxy : ∀ m, (∃ y ∈ ys, y.at m) → ∃ x ∈ xs, x.at m) {m : Nm} (h : Rch Φ ys m) : Rch Φ xs m := by
  induction h with
  | base h hm => exact .of (hxy _ ⟨_, h, hm⟩)
  | step h ho hc hq ih => exact .step ih ho hc hq

def ACalls (P : Program) (f : FuncId) (args : List AVal) (Φ : Store) (res : Nm → AVal) (ups : Nm → List (Nm × AObj)) : Prop :=
  ∀ (n : Nm) (S : Store), (∀ m, Rch Φ args m → S m = Φ m) → S n = none → (∀ i, S (.fam n i) = none) → ∀ (w : World) (ρ : Nm → Nat) (vs : List Value), EnvS w ρ S → Globs w ρ S → VSs w ρ S args vs →
    ((callFunc f vs.toArray).run P w = .ok (.enter f vs.toArray) w ∧ Calls P f vs.toArray w fun e w' => ∃ ρ' v, e = .returned v ∧ EnvS w' ρ' (updL S (ups n)) ∧ Ext (fun _ => False) w ρ S w' ρ' (updL S (ups n)) ∧ VS w' ρ' (updL S (ups n)) (res n) v) ∨
    (∃ v, (callFunc f vs.toArray).run P w = .ok (.value v) w ∧ VS w ρ S (res n) v ∧ ups n = [])

def LLe (x y : Leaf) : Prop :=
  x = y ∨ (∃ k, x = .sc (.slice none 0 0) ∧ y = .ints k []) ∨ (∃ k L n, x = .intc k L n ∧ n ≤ L.length ∧ y = .ints k (L.take n)) ∨ (∃ sz, x = .sc (.slice none 0 0) ∧ y = .seq sz []) ∨ (∃ a b, x = .fx a ∧ y = .fx b ∧ ∀ v, FXS a v → FXS b v)
def LsLe (L L' : List (List Leaf)) : Prop :=
  L.length = L'.length ∧ ∀ (i : Nat) c c', L[i]? = some c → L'[i]? = some c' → c.length = c'.length ∧ ∀ (j : Nat) x y, c[j]? = some x → c'[j]? = some y → LLe x y
def CLe (x y : Cell) : Prop :=
  x = y ∨ (∃ k, x = .sc (.slice none 0 0) ∧ y = .ints k []) ∨ (∃ k L n, x = .intc k L n ∧ n ≤ L.length ∧ y = .ints k (L.take n)) ∨ (∃ sz, x = .sc (.slice none 0 0) ∧ y = .seq sz []) ∨
    (∃ sz L L' n, x = .seqc sz L n ∧ n ≤ L.length ∧ y = .seq sz L' ∧ LsLe (L.take n) L') ∨ (∃ sz L L', x = .seq sz L ∧ y = .seq sz L' ∧ LsLe L L') ∨ (∃ a b, x = .fx a ∧ y = .fx b ∧ ∀ v, FXS a v → FXS b v)
def ALe : AVal → AVal → Prop
  | .c x, .c y => CLe x y
  | .agg xs, .agg ys => xs.length = ys.length ∧ ∀ (i : Nat) (x y : Cell), xs[i]? = some x → ys[i]? = some y → CLe x y
  | x, y => x = y
def ALes : List AVal → List AVal → Prop
  | [], [] => True
  | x :: xs, y :: ys => ALe x y ∧ ALes xs ys
  | _, _ => False

theorem CLe.refl (x : Cell) : CLe x x := .inl rfl
theorem ALe.refl (x : AVal) : ALe x x := by
  cases x with
  | c x => exact CLe.refl x
  | agg xs => exact ⟨rfl, fun i x y h1 h2 => by rw [h1] at h2; exact .inl (Option.some.inj h2)⟩
  | fn f cs => rfl
  | accv m n => rfl
  | accp m o => rfl
  | tup xs => rfl

section
variable {P : Program} {w : World} {ρ : Nm → Nat} {S : Store}

theorem LLe.held {F : Nat → Prop} {x y : Leaf} {u : Value} (h : LLe x y) (hx : LeafS w F x u) : LeafS w F y u := by
  rcases h with rfl | ⟨k, rfl, rfl⟩ | ⟨k, L, n, rfl, hn, rfl⟩ | ⟨sz, rfl, rfl⟩ | ⟨p, q, rfl, rfl, hl⟩
  · exact hx
  · cases hx
    exact .ints ⟨none, 0, rfl, Nat.le_refl _, Nat.le_refl _, fun h => by simp at h⟩
  · cases hx with
    | intc hx =>
      obtain ⟨A, cap, rfl, h1, h2, h3⟩ := hx
      have e : (L.take n).length = n := by simp; omega
      refine .ints ⟨A, cap, by rw [e], Nat.le_refl _, by omega, fun hl => ?_⟩
      obtain ⟨b, off, e1, e2, e3⟩ := h3 (by omega)
      refine ⟨b, off, e1, e2, fun i x hi => e3 i x ?_⟩
      rcases Nat.lt_or_ge i n with q | q
      · rw [List.getElem?_take_of_lt q] at hi; exact hi
      · rw [List.getElem?_eq_none (by omega)] at hi; cases hi
  · cases hx
    exact leafS_seq ⟨none, 0, rfl, Nat.le_refl _, Nat.le_refl _, fun c hc => by simp at hc, fun h => by simp at h⟩
  · cases hx with | fx hx => exact .fx (hl u hx)

theorem SeqS.le {F : Nat → Prop} {sz n : Nat} {L L' : List (List Leaf)} {u : Value} (hn : n ≤ L.length) (hl : LsLe (L.take n) L') (hx : SeqS w F sz L n u) : SeqS w F sz L' L'.length u := by
  obtain ⟨A, cap, rfl, h1, h2, h3, h4⟩ := hx
  have e : (L.take n).length = n := by simp; omega
  have e' : L'.length = n := by rw [← hl.1, e]
  have hL : ∀ (i : Nat) (c' : List Leaf), L'[i]? = some c' → ∃ c, L[i]? = some c ∧ (L.take n)[i]? = some c := by
    intro i c' hi
    have hlt := (List.getElem?_eq_some_iff.1 hi).1
    exact ⟨L[i], List.getElem?_eq_getElem (by omega), by rw [List.getElem?_take_of_lt (by omega)]; exact List.getElem?_eq_getElem (by omega)⟩
  refine ⟨A, cap, by rw [e'], Nat.le_refl _, by omega, fun c' hc => ?_, fun hp => ?_⟩
  · obtain ⟨i, hi, rfl⟩ := List.getElem_of_mem hc
    obtain ⟨c, q1, q2⟩ := hL i _ (List.getElem?_eq_getElem hi)
    rw [← (hl.2 i c _ q2 (List.getElem?_eq_getElem hi)).1]
    exact h3 c (List.mem_of_getElem? q1)
  · obtain ⟨b, off, e1, e2, e3⟩ := h4 (by omega)
    refine ⟨b, off, e1, e2, fun i c' j y hi hj => ?_⟩
    obtain ⟨c, q1, q2⟩ := hL i _ hi
    obtain ⟨q3, q4⟩ := hl.2 i c _ q2 hi
    have hjl := (List.getElem?_eq_some_iff.1 hj).1
    obtain ⟨u, p1, p2⟩ := e3 i c j _ q1 (List.getElem?_eq_getElem (by omega))
    exact ⟨u, p1, (q4 j _ y (List.getElem?_eq_getElem (by omega)) hj).held p2⟩

theorem CLe.held {x y : Cell} {u : Value} (h : CLe x y) (hx : CellS w ρ S x u) : CellS w ρ S y u := by
  rcases h with rfl | ⟨k, rfl, rfl⟩ | ⟨k, L, n, rfl, hn, rfl⟩ | ⟨sz, rfl, rfl⟩ | ⟨sz, L, L', n, rfl, hn, rfl, hl⟩ | ⟨sz, L, L', rfl, rfl, hl⟩ | ⟨p, q, rfl, rfl, hl⟩
  · exact hx
  · have : u = _ := hx
    exact ⟨none, 0, this, Nat.le_refl _, Nat.le_refl _, fun h => by simp at h⟩
  · obtain ⟨A, cap, rfl, h1, h2, h3⟩ := hx
    have e : (L.take n).length = n := by simp; omega
    refine ⟨A, cap, by rw [e], Nat.le_refl _, by omega, fun hl => ?_⟩
    obtain ⟨b, off, e1, e2, e3⟩ := h3 (by omega)
    refine ⟨b, off, e1, e2, fun i x hi => e3 i x ?_⟩
    rcases Nat.lt_or_ge i n with q | q
    · rw [List.getElem?_take_of_lt q] at hi; exact hi
    · rw [List.getElem?_eq_none (by omega)] at hi; cases hi
  · have : u = _ := hx
    exact ⟨none, 0, this, Nat.le_refl _, Nat.le_refl _, fun c hc => by simp at hc, fun h => by simp at h⟩
  · exact SeqS.le hn hl hx
  · exact SeqS.le (Nat.le_refl _) (by rw [List.take_length]; exact hl) hx
  · exact hl u hx

theorem ALe.held {x y : AVal} {u : Value} (h : ALe x y) (hx : VS w ρ S x u) : VS w ρ S y u := by
  cases x <;> cases y <;> simp only [ALe] at h <;> first
    | (cases h; done)
    | (cases h; exact hx)
    | exact h.held hx
    | (obtain ⟨h1, h2⟩ := h
       obtain ⟨vs, rfl, h3, h4⟩ := hx
       refine ⟨vs, rfl, by omega, fun i y hy => ?_⟩
       rename_i xs ys
       have hlt : i < xs.length := by
         rcases Nat.lt_or_ge i ys.length with q | q
         · omega
         · rw [List.getElem?_eq_none q] at hy; cases hy
       obtain ⟨u, p1, p2, p3⟩ := h4 i _ (List.getElem?_eq_getElem hlt)
       exact ⟨u, p1, p2, (h2 i _ y (List.getElem?_eq_getElem hlt) hy).held p3⟩)

theorem ALes.held : ∀ {xs ys : List AVal} {us : List Value}, ALes xs ys → VSs w ρ S xs us → VSs w ρ S ys us
  | [], [], us, _, h => h
  | x :: xs, y :: ys, us, ⟨h1, h2⟩, ⟨h3, h4⟩ => by
    match us with
    | [] => simp at h3
    | u :: us =>
      have ih := ALes.held h2 ⟨by simpa using h3, fun i z hz => h4 (i + 1) z (by simpa using hz)⟩
      refine ⟨by have := ih.1; simp [this], fun i z hz => ?_⟩
      match i with
      | 0 =>
        simp only [List.getElem?_cons_zero, Option.some.injEq] at hz
        subst hz
        obtain ⟨u', e, hv⟩ := h4 0 x rfl
        exact ⟨u', e, h1.held hv⟩
      | i + 1 => exact ih.2 i z (by simpa using hz)

theorem CLe.at {x y : Cell} {m : Nm} (h : CLe x y) (hy : y.at m) : x.at m := by
  rcases h with rfl | ⟨k, rfl, rfl⟩ | ⟨k, L, n, rfl, hn, rfl⟩ | ⟨sz, rfl, rfl⟩ | ⟨sz, L, L', n, rfl, hn, rfl, hl⟩ | ⟨sz, L, L', rfl, rfl, hl⟩ | ⟨p, q, rfl, rfl, hl⟩
  · exact hy
  all_goals exact hy.elim
theorem ALe.at {x y : AVal} {m : Nm} (h : ALe x y) (hy : y.at m) : x.at m := by
  cases x <;> cases y <;> simp only [ALe] at h <;> first
    | (cases h; done)
    | (cases h; exact hy)
    | exact h.at hy
    | (obtain ⟨h1, h2⟩ := h
       rename_i xs ys
       obtain ⟨y, hy1, hy2⟩ := hy
       obtain ⟨i, hi, rfl⟩ := List.getElem_of_mem hy1
       have hlt : i < xs.length := by omega
       exact ⟨xs[i], List.getElem_mem hlt, (h2 i _ _ (List.getElem?_eq_getElem hlt) (List.getElem?_eq_getElem hi)).at hy2⟩)
theorem ALes.at : ∀ {xs ys : List AVal} {m : Nm}, ALes xs ys → (∃ y ∈ ys, y.at m) → ∃ x ∈ xs, x.at m
  | [], [], m, _, h => h
  | x :: xs, y :: ys, m, ⟨h1, h2⟩, ⟨z, hz, hm⟩ => by
    rcases List.mem_cons.1 hz with rfl | hz
    · exact ⟨x, List.mem_cons_self, h1.at hm⟩
    · obtain ⟨z', e, q⟩ := ALes.at h2 ⟨z, hz, hm⟩
      exact ⟨z', List.mem_cons_of_mem _ e, q⟩
end

def nmOf : Option Nat → Nm
  | some d => .loc d
  | none => .new

def callE (P : Program) (mu : FuncId → Bool) (S : Store) (d : Option Nat) (fv : AVal) (xs : List AVal) (v : AVal) (S' : Store) : Prop :=
  ∃ f caps args Φ res ups, fv = .fn f caps ∧ ALes (xs ++ caps.map .c) args ∧ ACalls P f args Φ res ups ∧ (∀ m, Rch Φ args m → S m = Φ m) ∧ (S (nmOf d) = none ∧ ∀ i, S (.fam (nmOf d) i) = none) ∧
    v = res (nmOf d) ∧ S' = updL S (ups (nmOf d)) ∧
    (∀ p ∈ ups (nmOf d), p.1 = nmOf d ∨ (∃ i, p.1 = .fam (nmOf d) i) ∨ (mu f = true ∧ Rch Φ args p.1)) ∧ (ups (nmOf d) = [] ∨ (mu f = true) ∨ ∃ k o, d = some k ∧ ups (nmOf d) = [(nmOf d, o)]) ∧
    (∀ m, (res (nmOf d)).at m → (∃ o, (m, o) ∈ ups (nmOf d)) ∨ Rch Φ args m) ∧
    (∀ p ∈ ups (nmOf d), ∀ x ∈ p.2.cls, ∀ m, x.at m → (∃ o, (m, o) ∈ ups (nmOf d)) ∨ Rch Φ args m)

inductive Kind where
  | pure | read | new | write | app
  deriving DecidableEq

def kindC (mu : FuncId → Bool) (c : Call) : Kind :=
  match c.callee with
  | .value x => match x with | .func f => if mu f then .write else .read | _ => .write
  | .invoke .. => .write
  | .builtin b => match b with | .append => .app | .copy => .app | _ => .pure

def kind (mu : FuncId → Bool) : Op → Kind
  | .load .. => .read
  | .store .. => .write
  | .alloc _ => .new
  | .box .. => .new
  | .buildSlice .. => .new
  | .makeSlice .. => .new
  | .call c => kindC mu c
  | _ => .pure

def eff (P : Program) (mu : FuncId → Bool) (fr : Fram) (S : Store) (o : Oper) (v : AVal) (S' : Store) : Prop :=
  match o.op with
  | .load t a => loadE P S t (look fr a) v ∧ S' = S
  | .store t a x => storeE P S t (look fr a) (look fr x) S' ∧ v = .c (.sc undef)
  | .alloc e => ∃ d ob, o.dst = some d ∧ S (.loc d) = none ∧ newE P (look fr) d (.alloc e) v ob ∧ S' = upd S (.loc d) ob
  | .box e x => ∃ d ob, o.dst = some d ∧ S (.loc d) = none ∧ newE P (look fr) d (.box e x) v ob ∧ S' = upd S (.loc d) ob
  | .buildSlice t n ps => ∃ d ob, o.dst = some d ∧ S (.loc d) = none ∧ newE P (look fr) d (.buildSlice t n ps) v ob ∧ S' = upd S (.loc d) ob
  | .makeSlice t l c => ∃ d ob, o.dst = some d ∧ S (.loc d) = none ∧ newE P (look fr) d (.makeSlice t l c) v ob ∧ S' = upd S (.loc d) ob
  | .call c => match c.callee with
    | .value f => callE P mu S o.dst (look fr f) (c.args.toList.map (look fr)) v S'
    | _ => PE P (look fr) (.call c) v ∧ S' = S
  | op => PE P (look fr) op v ∧ S' = S

def killF (n : Nm) : AVal → AVal
  | .accv m k => if m = n then .c .junk else .accv m k
  | .accp m k => if m = n then .c .junk else .accp m k
  | x => x

def appE (P : Program) (fr : Fram) (S : Store) (d : Nat) (c : Call) (v : AVal) (n : Nm) (S' : Store) : Prop :=
  match c.args.toList, c.argTypes.toList with
  | [s, x], [t, t'] => t = t' ∧ ∃ e k Y zv, P.underlying t = some (.slice e) ∧ P.cellsOf e = k ∧ 0 < k ∧ zeroOf P e = some zv ∧ zv.cells.size = k ∧ srcR S (look fr x) k Y ∧
      match look fr s with
      | .c (.win m 0 len cm) => n = m ∧ len + Y.length ≤ cm ∧ v = .c (.win m 0 (len + Y.length) cm) ∧
          ((∃ ki L Y', S m = some (.ints e ki L) ∧ k = 1 ∧ zv = .int ki 0 ∧ Y = ir ki Y' ∧ len + Y.length ≤ L.length ∧ S' = upd S m (.ints e ki (L.take len ++ Y' ++ L.drop (len + Y'.length)))) ∨
           (∃ cs, S m = some (.cells e cs) ∧ (len + Y.length) * k ≤ cs.length ∧ S' = upd S m (.cells e (spl cs (len * k) Y.flatten))))
      | .accv m len => v = .accv n (len + Y.length) ∧ n = m ∧ ∃ L, L.length = len ∧ S m = some (.acc e k L) ∧ (L.length + Y.length) * P.bytesOf e ≤ 140737488355328 ∧ L.length + Y.length ≤ maxLen ∧ S' = upd S m (.acc e k (L ++ Y)) ∧ n.isOut = false
      | .c (.sc (.slice none 0 0)) => v = .accv n Y.length ∧ n = .loc d ∧ S (.loc d) = none ∧ Y.length * P.bytesOf e ≤ 140737488355328 ∧ Y.length ≤ maxLen ∧ S' = upd S (.loc d) (.acc e k Y)
      | _ => False
  | _, _ => False

def aExec (P : Program) (mu : FuncId → Bool) (o : Oper) (st st' : St) : Prop :=
  match o.op with
  | .call c => if kindC mu c = .app then (∃ d v n S', c.callee = .builtin .append ∧ o.dst = some d ∧ appE P st.fr st.sg d c v n S' ∧ st' = ⟨putF (fun t => killF n (st.fr t)) (some d) v, S'⟩) ∨
        ∃ v S', c.callee = .builtin .copy ∧ copyE P (look st.fr) st.sg c v S' ∧ st' = ⟨putF st.fr o.dst v, S'⟩
      else ∃ v S', eff P mu st.fr st.sg o v S' ∧ st' = ⟨putF st.fr o.dst v, S'⟩
  | _ => ∃ v S', eff P mu st.fr st.sg o v S' ∧ st' = ⟨putF st.fr o.dst v, S'⟩

def yA (ops : Array Oper) (fr : Fram) (j : Nat) : Option (Option Bool) :=
  match (ops[j]?).bind (·.dst) with
  | some t => match fr t with
    | .c (.sc (.bool b)) => some (some b)
    | .c (.sc (.tuple _)) => some none
    | _ => none
  | none => some none

def aStep (P : Program) (mu : FuncId → Bool) (ops : Array Oper) (o : Oper) (st st' : St) : Prop :=
  match o.guard with
  | none => aExec P mu o st st'
  | some (j, want) => match yA ops st.fr j with
    | some (some b) => (b = want → aExec P mu o st st') ∧ (b ≠ want → st' = ⟨putF st.fr o.dst (.c (.sc undef)), st.sg⟩)
    | some none => st' = ⟨putF st.fr o.dst (.c (.sc undef)), st.sg⟩
    | none => False

/-! ### The program does so -/
section
variable {P : Program} {mu : FuncId → Bool} {w : World} {ρ : Nm → Nat} {st st' : St} {a : Act}

theorem Sim.look (h : Sim w ρ st a.tmps) (x : Operand) : VS w ρ st.sg (look st.fr x) (a.eval x) := by
  cases x with
  | tmp t => exact h.fr t
  | const v => exact cellC_S v
  | global g =>
    simp only [Abs.look]
    split
    · rename_i cs e; exact h.gl g cs e
    · trivial
  | func f => exact ⟨#[], rfl, rfl, fun i x hi => by simp at hi⟩

theorem Sim.put {w' : World} {ρ' : Nm → Nat} {X : Nm → Prop} {S' : Store} (h : Sim w ρ st a.tmps) (he : EnvS w' ρ' S') (hx : Ext X w ρ st.sg w' ρ' S') (fr : Fram)
    (hfr : ∀ t, fr t = .c .junk ∨ (fr t = st.fr t ∧ ∀ m, X m → ∀ o, fr t ≠ .accv m o ∧ fr t ≠ .accp m o)) {d : Option Nat} (hd : ∀ t, d = some t → t < a.tmps.size) {v : AVal} {u : Value} (hv : VS w' ρ' S' v u) :
    Sim w' ρ' ⟨putF fr d v, S'⟩ (a.put d u).tmps := by
  refine ⟨he.inj, he.obj, fun t => ?_, h.gl.ext hx⟩
  have old : VS w' ρ' S' (fr t) (a.tmps.getD t undef) := by
    rcases hfr t with e | ⟨e, hm⟩
    · rw [e]; trivial
    · rw [e] at hm ⊢; exact (h.fr t).ext hx hm
  cases d with
  | none => exact old
  | some d =>
    simp only [putF, Act.put]
    by_cases e : t = d
    · subst e
      simp only [if_true]
      have hlt := hd t rfl
      simpa [Array.getD_eq_getD_getElem?, hlt] using hv
    · simp only [if_neg e]
      have e' : d ≠ t := fun q => e q.symm
      simpa [Array.getD_eq_getD_getElem?, Array.getElem?_setIfInBounds_ne e'] using old

def StepTo (w : World) (ρ : Nm → Nat) (st st' : St) (a : Act) (d : Option Nat) (K : Act → World → Prop) : Prop :=
  ∀ w' ρ' u X, Sim w' ρ' st' (a.put d u).tmps → Ext X w ρ st.sg w' ρ' st'.sg → (∀ m, X m → m.isOut = false) → K (a.put d u) w'

theorem eff_sound (h : Sim w ρ st a.tmps) {o : Oper} (hd : ∀ t, o.dst = some t → t < a.tmps.size) {v : AVal} {S' : Store} (he : eff P mu st.fr st.sg o v S') {K : Act → World → Prop} {Q : Exit → Act → World → Prop}
    (hK : StepTo w ρ st ⟨putF st.fr o.dst v, S'⟩ a o.dst K) : o.wp P a w K Q := by
  have hr := h.look
  have keep : ∀ {w' : World} {ρ' : Nm → Nat} {u : Value} {S' : Store}, EnvS w' ρ' S' → Ext (fun _ => False) w ρ st.sg w' ρ' S' → VS w' ρ' S' v u → StepTo w ρ st ⟨putF st.fr o.dst v, S'⟩ a o.dst K → K (a.put o.dst u) w' :=
    fun e1 e2 e3 hK => hK _ _ _ _ (h.put e1 e2 st.fr (fun t => .inr ⟨rfl, fun _ hX => hX.elim⟩) hd e3) e2 (fun _ hX => hX.elim)
  have plain : PE P (Abs.look st.fr) o.op v → S' = st.sg → o.wp P a w K Q := by
    intro h1 h2
    subst h2
    obtain ⟨u, n, h3, h4⟩ := PE_run (w := w) (ρ := ρ) (S := st.sg) hr h1
    unfold Oper.wp
    rw [h3]
    have hx := Ext.drawn w ρ st.sg n
    have h5 : VS { w with drawn := n } ρ st.sg v u := h4.ext hx (fun _ h => h.elim)
    exact keep ⟨h.env.inj, fun m o hm => (h.env.obj m o hm).drawn n⟩ hx h5 hK
  have made : ∀ d ob, o.dst = some d → st.sg (.loc d) = none → newE P (Abs.look st.fr) d o.op v ob → S' = upd st.sg (.loc d) ob → o.wp P a w K Q := by
    intro d ob h1 h2 h3 h4
    subst h4
    obtain ⟨u, vs, ty, h5, h6, h7⟩ := newE_run h.env hr h2 h3
    unfold Oper.wp
    rw [h5]
    exact keep h6 ((New.of_alloc w (.loc d) (.cells vs ty)).ext h.env h2 ob) h7 hK
  obtain ⟨dst, op, ty, pos, after, guard⟩ := o
  cases op with
  | load t x =>
    obtain ⟨h1, rfl⟩ := he
    obtain ⟨u, h2, h3⟩ := loadE_run (P := P) h.env (hr x) h1
    unfold Oper.wp
    rw [show (execOp a.eval ⟨dst, .load t x, ty, pos, after, guard⟩).run P w = .ok (.value u) w from run_then h2 _]
    exact keep h.env (Ext.refl _ _ _) h3 hK
  | store t x y =>
    obtain ⟨h1, rfl⟩ := he
    obtain ⟨w', h2, h3, h4⟩ := storeE_run h.env (hr x) (hr y) h1
    unfold Oper.wp
    rw [show (execOp a.eval ⟨dst, .store t x y, ty, pos, after, guard⟩).run P w = .ok .skip w' by simp [execOp, h2]]
    exact keep h3 h4 (rfl : undef = undef) hK
  | alloc e => obtain ⟨d, ob, h1, h2, h3, h4⟩ := he; exact made d ob h1 h2 h3 h4
  | box e x => obtain ⟨d, ob, h1, h2, h3, h4⟩ := he; exact made d ob h1 h2 h3 h4
  | buildSlice t n ps => obtain ⟨d, ob, h1, h2, h3, h4⟩ := he; exact made d ob h1 h2 h3 h4
  | makeSlice t l c => obtain ⟨d, ob, h1, h2, h3, h4⟩ := he; exact made d ob h1 h2 h3 h4
  | call c =>
    obtain ⟨callee, args, tys⟩ := c
    cases callee with
    | value f =>
      obtain ⟨g, caps, as', Φ, res, ups, h1, h2, h3, h4, h5, rfl, rfl, -⟩ := he
      have hf := hr f
      rw [h1] at hf
      obtain ⟨cv, hf1, hf2⟩ := hf
      have hargs : VSs w ρ st.sg (args.toList.map (Abs.look st.fr) ++ caps.map .c) ((args.map a.eval) ++ cv).toList := by
        refine ⟨by simp [hf2.1], fun i x hi => ?_⟩
        rcases Nat.lt_or_ge i args.size with q | q
        · rw [List.getElem?_append_left (by simpa using q), List.getElem?_map] at hi
          cases e : args.toList[i]? with
          | none => rw [e] at hi; cases hi
          | some y =>
            rw [e] at hi
            simp only [Option.map_some, Option.some.injEq] at hi
            subst hi
            refine ⟨a.eval y, ?_, hr y⟩
            rw [Array.toList_append, List.getElem?_append_left (by simpa using q)]
            simp [e]
        · rw [List.getElem?_append_right (by simpa using q), List.getElem?_map] at hi
          cases e : caps[i - (args.toList.map (Abs.look st.fr)).length]? with
          | none => rw [e] at hi; cases hi
          | some y =>
            rw [e] at hi
            simp only [Option.map_some, Option.some.injEq] at hi
            subst hi
            obtain ⟨u, p1, p2, p3⟩ := hf2.2 _ _ e
            refine ⟨u, ?_, p3⟩
            rw [Array.toList_append, List.getElem?_append_right (by simpa using q)]
            simpa using p1
      have hh := h3 (nmOf dst) st.sg h4 h5.1 h5.2 w ρ _ h.env h.gl (h2.held hargs)
      rw [Array.toArray_toList] at hh
      unfold Oper.wp
      rcases hh with ⟨hrun, hc⟩ | ⟨u, hrun, hv, hu⟩
      · rw [show (execOp a.eval ⟨dst, .call ⟨.value f, args, tys⟩, ty, pos, after, guard⟩).run P w = .ok (.enter g (args.map a.eval ++ cv)) w by
          simp [execOp, resolve, Deferred.ofValue, hf1, invoke, hrun]]
        refine hc.mono fun e w' ⟨ρ', u, he, h6, h7, h8⟩ => ?_
        subst he
        exact keep h6 h7 h8 hK
      · rw [show (execOp a.eval ⟨dst, .call ⟨.value f, args, tys⟩, ty, pos, after, guard⟩).run P w = .ok (.value u) w by
          simp [execOp, resolve, Deferred.ofValue, hf1, invoke, hrun]]
        rw [hu] at hK
        exact keep h.env (Ext.refl _ _ _) hv hK
    | invoke rc m => obtain ⟨h1, h2⟩ := he; exact plain h1 h2
    | builtin b => obtain ⟨h1, h2⟩ := he; exact plain h1 h2
  | _ => obtain ⟨h1, h2⟩ := he; exact plain h1 h2

theorem killF_cases (n : Nm) (x : AVal) : killF n x = .c .junk ∨ (killF n x = x ∧ ∀ m, m = n → ∀ o, killF n x ≠ .accv m o ∧ killF n x ≠ .accp m o) := by
  cases x with
  | accv m k =>
    simp only [killF]
    split
    · exact .inl rfl
    · rename_i h
      refine .inr ⟨rfl, fun q hq o => ⟨fun e => ?_, fun e => (by cases e)⟩⟩
      injection e with e
      exact h (by rw [e, hq])
  | accp m k =>
    simp only [killF]
    split
    · exact .inl rfl
    · rename_i h
      refine .inr ⟨rfl, fun q hq o => ⟨fun e => (by cases e), fun e => ?_⟩⟩
      injection e with e
      exact h (by rw [e, hq])
  | _ => exact .inr ⟨rfl, fun m _ o => ⟨fun e => (by cases e), fun e => (by cases e)⟩⟩

theorem appE_sound (h : Sim w ρ st a.tmps) {o : Oper} {c : Call} (ho : o.op = .call c) (hk : c.callee = .builtin .append) {d : Nat} (hod : o.dst = some d) (hd : d < a.tmps.size) {v : AVal} {n : Nm} {S' : Store}
    (he : appE P st.fr st.sg d c v n S') {K : Act → World → Prop} {Q : Exit → Act → World → Prop}
    (hK : StepTo w ρ st ⟨putF (fun t => killF n (st.fr t)) (some d) v, S'⟩ a (some d) K) : o.wp P a w K Q := by
  have hr := h.look
  unfold appE at he
  split at he
  · rename_i s x t t' ea et
    obtain ⟨rfl, e, k, Y, zv, h1, h2, hk0, h3, hzk, h4, h5⟩ := he
    have ea' : c.args = #[s, x] := by rw [← Array.toList_inj]; simpa using ea
    have et' : c.argTypes = #[t, t] := by rw [← Array.toList_inj]; simpa using et
    have fin : ∀ {L : List (List Cell)} {u : Value} {w' : World} {ρ' : Nm → Nat}, v = .accv n L.length → n.isOut = false → Grew w ρ st.sg n e k L u w' ρ' → S' = upd st.sg n (.acc e k L) → K (a.put (some d) u) w' := by
      intro L u w' ρ' hv hn hg hS
      subst hS
      subst hv
      exact hK _ _ _ _ (h.put hg.env hg.ext _ (fun t => killF_cases n (st.fr t)) (fun t ht => by injection ht with ht; subst ht; exact hd) hg.val) hg.ext (fun m hm => by rw [hm]; exact hn)
    have hexec : ∀ {u w'}, (Builtin.append_ #[t, t] o.type #[a.eval s, a.eval x]).run P w = .ok u w' → (execOp a.eval o).run P w = .ok (.value u) w' := by
      intro u w' hrun
      simp [execOp, ho, resolve, hk, ea', et', invoke, builtin, hrun]
    have hs := hr s
    split at h5
    · rename_i m len cm es
      obtain ⟨rfl, h7, rfl, ⟨ki, L, Y', h6, rfl, rfl, rfl, h8, rfl⟩ | ⟨cs, h6, h8, rfl⟩⟩ := h5
      · rw [es] at hs
        have e0 : (ir ki Y').length = Y'.length := List.length_map ..
        obtain ⟨u, w', hrun, g1, g2, g3⟩ := append_roomI (P := P) (ty := o.type) h.env h1 h2 h3 h6 (by rw [e0] at h7; exact h7) (by rw [e0] at h8; exact h8) hs (hr x) h4
        unfold Oper.wp
        rw [hexec hrun]
        show K (a.put o.dst u) w'
        rw [hod]
        rw [e0] at hK
        exact hK _ _ _ _ (h.put g1 g2 _ (fun t => (killF_cases n (st.fr t)).imp (fun q => q) (fun q => ⟨q.1, fun _ hX => hX.elim⟩)) (fun t ht => by injection ht with ht; subst ht; exact hd) g3) g2 (fun _ hX => hX.elim)
      · rw [es] at hs
        obtain ⟨u, w', hrun, g1, g2, g3⟩ := append_room (P := P) (ty := o.type) h.env h1 h2 hk0 h3 h6 h7 h8 hs (hr x) h4
        unfold Oper.wp
        rw [hexec hrun]
        show K (a.put o.dst u) w'
        rw [hod]
        exact hK _ _ _ _ (h.put g1 g2 _ (fun t => (killF_cases n (st.fr t)).imp (fun q => q) (fun q => ⟨q.1, fun _ hX => hX.elim⟩)) (fun t ht => by injection ht with ht; subst ht; exact hd) g3) g2 (fun _ hX => hX.elim)
    · rename_i m len es
      obtain ⟨hva, rfl, L, rfl, h6, h7, h8, h9, h10⟩ := h5
      rw [es] at hs
      obtain ⟨ty', k', L', q1, -, q2⟩ := hs
      rw [h6] at q1
      obtain ⟨rfl, rfl, rfl⟩ : e = ty' ∧ k = k' ∧ L = L' := by injection q1 with q1; injection q1 with a b c; exact ⟨a, b, c⟩
      obtain ⟨u, w', ρ', hrun, hg⟩ := append_grew (P := P) (ty := o.type) h.env h1 h2 hk0 h3 hzk (.inr h6) q2 (hr x) h4 h7 h8
      unfold Oper.wp
      rw [hexec hrun]
      show K (a.put o.dst u) w'
      rw [hod]
      exact fin (by rw [hva, List.length_append]) h10 hg h9
    · rename_i es
      obtain ⟨hva, rfl, h6, h7, h8, h9⟩ := h5
      rw [es] at hs
      have hs' := vs_sc hs
      obtain ⟨u, w', ρ', hrun, hg⟩ := append_grew (P := P) (ty := o.type) h.env h1 h2 hk0 h3 hzk (n := .loc d) (L := []) (.inl ⟨h6, rfl⟩) (.inl ⟨rfl, none, hs'⟩) (hr x) h4 (by simpa using h7) (by simpa using h8)
      unfold Oper.wp
      rw [hexec hrun]
      show K (a.put o.dst u) w'
      rw [hod]
      exact fin hva rfl hg h9
    · exact h5.elim
  · exact he.elim

theorem aExec_sound (h : Sim w ρ st a.tmps) {o : Oper} (hd : ∀ t, o.dst = some t → t < a.tmps.size) (he : aExec P mu o st st') {K : Act → World → Prop} {Q : Exit → Act → World → Prop}
    (hK : StepTo w ρ st st' a o.dst K) : o.wp P a w K Q := by
  unfold aExec at he
  split at he
  · rename_i c ho
    split at he
    · rename_i hk
      rcases he with ⟨d, v, n, S', hcal, h1, h2, rfl⟩ | ⟨v, S', hcal, h2, rfl⟩
      · rw [h1] at hK
        exact appE_sound h ho hcal h1 (hd d h1) h2 hK
      · obtain ⟨callee, args, tys⟩ := c
        simp only at hcal
        subst hcal
        obtain ⟨u, w', h3, h4, h5, h6⟩ := copyE_run (ty := o.type) h.env h.look h2
        unfold Oper.wp
        rw [show (execOp a.eval o).run P w = .ok (.value u) w' by simp [execOp, ho, resolve, invoke, builtin, h3]]
        exact hK _ _ _ _ (h.put h4 h5 st.fr (fun t => .inr ⟨rfl, fun _ hX => hX.elim⟩) hd h6) h5 (fun _ hX => hX.elim)
    · obtain ⟨v, S', h1, rfl⟩ := he
      exact eff_sound h hd h1 hK
  · obtain ⟨v, S', h1, rfl⟩ := he
    exact eff_sound h hd h1 hK
end
end Go.Abs

/-
  What an operation hangs on: its operands, the names that they mention.
-/
namespace Go.Abs
open Go

section
variable {P : Program} {mu : FuncId → Bool}

theorem fillE_congr {place : Nat → Option (Nat × Nat)} {r r' : Operand → AVal} : ∀ {ps : List (Nat × Operand)} {cs out : List Cell}, (∀ p ∈ ps, r p.2 = r' p.2) → fillE place r cs ps out → fillE place r' cs ps out
  | [], _, _, _, h => h
  | (i, x) :: rest, cs, out, hp, ⟨off, size, h1, h2, h3, h4, h5⟩ => by
    have e := hp (i, x) (by simp)
    simp only at e
    exact ⟨off, size, h1, by rw [← e]; exact h2, by rw [← e]; exact h3, h4, by rw [← e]; exact fillE_congr (fun p hq => hp p (by simp [hq])) h5⟩

theorem mem_pairs {ps : Array (Nat × Operand)} {p : Nat × Operand} (h : p ∈ ps.toList) : p.2 ∈ (ps.toList.map (·.2)).toArray := by
  simp only [List.mem_toArray]; exact List.mem_map.2 ⟨p, h, rfl⟩

theorem bndE_congr {r r' : Operand → AVal} {lo hi : Option Operand} {n c l h : Nat} (h1 : ∀ x, lo = some x → r x = r' x) (h2 : ∀ x, hi = some x → r x = r' x) (hb : bndE r lo hi n c l h) : bndE r' lo hi n c l h := by
  unfold bndE at *
  cases lo <;> cases hi <;> simp_all <;> omega

theorem map_agree {r r' : Operand → AVal} {l : List Operand} (h : ∀ x ∈ l, r x = r' x) : l.map r = l.map r' := List.map_congr_left h

theorem builtinE_congr {r r' : Operand → AVal} {b : Builtin} {A : List Operand} {T : List TypeId} {v : AVal} (hr : ∀ x ∈ A, r x = r' x) (h : builtinE P r b A T v) : builtinE P r' b A T v := by
  unfold builtinE at *
  split at h
  · rename_i x t
    rw [← hr x (by simp)]; exact h
  · rw [← map_agree hr]; exact h
  · rw [← map_agree hr]; exact h
  · exact h.elim

theorem PE0_congr {r r' : Operand → AVal} {op : Op} {v : AVal} (hr : ∀ x ∈ op.operands, r x = r' x) (h : PE0 P r op v) : PE0 P r' op v := by
  cases op with
  | move x => simp only [PE0] at *; rw [← hr x (by simp [Op.operands])]; exact h
  | assign x => simp only [PE0] at *; rw [← hr x (by simp [Op.operands])]; exact h
  | pick c a b => simp only [PE0] at *; rw [← hr c (by simp [Op.operands]), ← hr a (by simp [Op.operands]), ← hr b (by simp [Op.operands])]; exact h
  | nilCheck x => simp only [PE0] at *; rw [← hr x (by simp [Op.operands])]; exact h
  | binOp op T x y T2 => simp only [PE0] at *; rw [← hr x (by simp [Op.operands]), ← hr y (by simp [Op.operands])]; exact h
  | unOp op T x => simp only [PE0] at *; rw [← hr x (by simp [Op.operands])]; exact h
  | convert s d x => simp only [PE0] at *; rw [← hr x (by simp [Op.operands])]; exact h
  | fieldAddr s x f => simp only [PE0] at *; rw [← hr x (by simp [Op.operands])]; exact h
  | field s x f => simp only [PE0] at *; rw [← hr x (by simp [Op.operands])]; exact h
  | indexAddr t x i => simp only [PE0] at *; rw [← hr x (by simp [Op.operands]), ← hr i (by simp [Op.operands])]; exact h
  | index t x i => simp only [PE0] at *; rw [← hr x (by simp [Op.operands]), ← hr i (by simp [Op.operands])]; exact h
  | slice t x lo hi mx =>
    simp only [PE0, sliceE] at *
    rw [← hr x (by simp [Op.operands])]
    obtain ⟨rfl, e, h1, h2, h3⟩ := h
    have hlo : ∀ y, lo = some y → r y = r' y := fun y e => hr y (by subst e; simp [Op.operands])
    have hhi : ∀ y, hi = some y → r y = r' y := fun y e => hr y (by subst e; simp [Op.operands])
    refine ⟨rfl, e, h1, h2, ?_⟩
    split at h3 <;> first
      | exact h3.elim
      | (obtain ⟨a, l, h, b, c⟩ := h3; exact ⟨a, l, h, bndE_congr hlo hhi b, c⟩)
      | (obtain ⟨l, h, b, c⟩ := h3; exact ⟨l, h, bndE_congr hlo hhi b, c⟩)
  | extract x i => simp only [PE0] at *; rw [← hr x (by simp [Op.operands])]; exact h
  | build t ps =>
    simp only [PE0, buildE] at *
    obtain ⟨fs, z, out, h1, h2, h3, h4, h5, h6⟩ := h
    exact ⟨fs, z, out, h1, h2, h3, h4, fillE_congr (fun p hp => hr p.2 (mem_pairs hp)) h5, h6⟩
  | makeFunc g first cap =>
    simp only [PE0] at *
    split at h
    · obtain ⟨h1, cs, h2, h3⟩ := h
      refine ⟨h1, cs, ?_, h3⟩
      rw [← h2]
      exact (map_agree fun x hx => hr x (by simp [Op.operands]; exact .inr (by simpa using hx))).symm
    · exact h.elim
  | call c =>
    simp only [PE0] at *
    split at h
    · rename_i b e
      have hargs : ∀ x ∈ c.args.toList, r x = r' x := fun x hx => hr x (by simp [Op.operands, Call.operands]; exact .inr (by simpa using hx))
      exact builtinE_congr hargs h
    · exact h.elim
  | _ => exact h.elim

theorem FE_congr {r r' : Operand → AVal} {op : Op} {v : AVal} (hr : ∀ x ∈ op.operands, r x = r' x) (h : FE P r op v) : FE P r' op v := by
  cases op with
  | binOp op T x y T2 => simp only [FE] at *; rw [← hr x (by simp [Op.operands]), ← hr y (by simp [Op.operands])]; exact h
  | unOp op T x => simp only [FE] at *; rw [← hr x (by simp [Op.operands])]; exact h
  | convert s d x => simp only [FE] at *; rw [← hr x (by simp [Op.operands])]; exact h
  | call c =>
    obtain ⟨callee, args, tys⟩ := c
    cases callee with
    | builtin b => simp only [FE] at *; rw [← map_agree (fun x hx => hr x (by simpa [Op.operands, Call.operands] using hx))]; exact h
    | value f => exact h
    | invoke rc m => exact h
  | _ => exact h
theorem PE_congr {r r' : Operand → AVal} {op : Op} {v : AVal} (hr : ∀ x ∈ op.operands, r x = r' x) (h : PE P r op v) : PE P r' op v := h.imp (PE0_congr hr) (FE_congr hr)

theorem newE_congr {r r' : Operand → AVal} {d : Nat} {op : Op} {v : AVal} {ob : AObj} (hr : ∀ x ∈ op.operands, r x = r' x) (h : newE P r d op v ob) : newE P r' d op v ob := by
  cases op with
  | alloc e => exact h
  | box e x => simp only [newE] at *; rw [← hr x (by simp [Op.operands])]; exact h
  | buildSlice t n ps =>
    simp only [newE] at *
    obtain ⟨e, z, out, h1, h2, h3, h4, h5, h6, h7, h8⟩ := h
    exact ⟨e, z, out, h1, h2, h3, h4, h5, h6, fillE_congr (fun p hp => hr p.2 (mem_pairs hp)) h7, h8⟩
  | makeSlice t l c => simp only [newE] at *; rw [← hr l (by simp [Op.operands]), ← hr c (by simp [Op.operands])]; exact h
  | _ => exact h.elim

theorem eff_congr {fr fr' : Fram} {S S' : Store} {o : Oper} {v : AVal} (hr : ∀ x ∈ o.op.operands, look fr x = look fr' x) (h : eff P mu fr S o v S') : eff P mu fr' S o v S' := by
  obtain ⟨dst, op, ty, pos, after, guard⟩ := o
  simp only at hr
  cases op with
  | load t a => simp only [eff] at *; rw [← hr a (by simp [Op.operands])]; exact h
  | store t a x => simp only [eff] at *; rw [← hr a (by simp [Op.operands]), ← hr x (by simp [Op.operands])]; exact h
  | alloc e => obtain ⟨d, ob, h1, h2, h3, h4⟩ := h; exact ⟨d, ob, h1, h2, newE_congr hr h3, h4⟩
  | box e x => obtain ⟨d, ob, h1, h2, h3, h4⟩ := h; exact ⟨d, ob, h1, h2, newE_congr hr h3, h4⟩
  | buildSlice t n ps => obtain ⟨d, ob, h1, h2, h3, h4⟩ := h; exact ⟨d, ob, h1, h2, newE_congr hr h3, h4⟩
  | makeSlice t l c => obtain ⟨d, ob, h1, h2, h3, h4⟩ := h; exact ⟨d, ob, h1, h2, newE_congr hr h3, h4⟩
  | call c =>
    obtain ⟨callee, args, tys⟩ := c
    cases callee with
    | value f =>
      simp only [eff] at *
      rw [← hr f (by simp [Op.operands, Call.operands]), ← map_agree (r := look fr) (r' := look fr') (l := args.toList) (fun x hx => hr x (by simp [Op.operands, Call.operands]; exact .inr (by simpa using hx)))]
      exact h
    | invoke rc m => exact ⟨PE_congr hr h.1, h.2⟩
    | builtin b => exact ⟨PE_congr hr h.1, h.2⟩
  | _ => exact ⟨PE_congr hr h.1, h.2⟩

/-! ### Names -/
theorem spl_mem {cs xs : List Cell} {off : Nat} {x : Cell} (h : x ∈ spl cs off xs) : x ∈ cs ∨ x ∈ xs := by
  unfold spl at h
  rcases List.mem_append.1 h with h | h
  · rcases List.mem_append.1 h with h | h
    · exact .inl (List.mem_of_mem_take h)
    · exact .inr h
  · exact .inl (List.mem_of_mem_drop h)

theorem cells_at {x : AVal} {c : Cell} {m : Nm} (hc : c ∈ x.cells) (hm : c.at m) : x.at m := by
  cases x with
  | c y => simp only [AVal.cells, List.mem_singleton] at hc; subst hc; exact hm
  | agg cs => exact ⟨c, hc, hm⟩
  | fn f cs => simp [AVal.cells] at hc
  | accv n k => simp [AVal.cells] at hc
  | accp n k => simp [AVal.cells] at hc
  | tup xs => simp [AVal.cells] at hc

theorem fillE_names {place : Nat → Option (Nat × Nat)} {r : Operand → AVal} : ∀ {ps : List (Nat × Operand)} {cs out : List Cell}, fillE place r cs ps out → ∀ c ∈ out, c ∈ cs ∨ ∃ p ∈ ps, c ∈ (r p.2).cells
  | [], cs, out, h, c, hc => by simp only [fillE] at h; subst h; exact .inl hc
  | (i, x) :: rest, cs, out, ⟨off, size, h1, h2, h3, h4, h5⟩, c, hc => by
    rcases fillE_names h5 c hc with h | ⟨p, hp, hq⟩
    · rcases spl_mem h with h | h
      · exact .inl h
      · exact .inr ⟨(i, x), by simp, h⟩
    · exact .inr ⟨p, by simp [hp], hq⟩

theorem zero_at {e : TypeId} {z : List Cell} (h : zeroCells P e = some z) {c : Cell} (hc : c ∈ z) {m : Nm} : ¬ c.at m := by
  unfold zeroCells at h
  cases e2 : zeroOf P e with
  | none => rw [e2] at h; cases h
  | some v =>
    rw [e2] at h
    simp only [Option.map_some, Option.some.injEq] at h
    subst h
    obtain ⟨u, -, rfl⟩ := List.mem_map.1 hc
    exact cellC_nm u

theorem intE_at {op : BinOp} {k : IntKind} {a b : Int} {v : AVal} {m : Nm} (h : intE op k a b v) : ¬ v.at m := by
  cases op <;> simp only [intE] at h <;> first
    | exact h.elim
    | (subst h; exact fun h => h)
    | (obtain ⟨-, rfl⟩ := h; exact fun h => h)
theorem shiftE_at {op : BinOp} {k : IntKind} {a b : Int} {v : AVal} {m : Nm} (h : shiftE op k a b v) : ¬ v.at m := by
  cases op <;> simp only [shiftE] at h <;> first
    | exact h.elim
    | (obtain ⟨-, rfl⟩ := h; exact fun h => h)
theorem boolE_at {op : BinOp} {a b : Bool} {v : AVal} {m : Nm} (h : boolE op a b v) : ¬ v.at m := by
  cases op <;> simp only [boolE] at h <;> first
    | exact h.elim
    | (subst h; exact fun h => h)

theorem PE0_names {r : Operand → AVal} {op : Op} {v : AVal} (h : PE0 P r op v) {m : Nm} (hm : v.at m) : ∃ x ∈ op.operands, (r x).at m := by
  cases op with
  | move x => simp only [PE0] at h; subst h; exact ⟨x, by simp [Op.operands], hm⟩
  | assign x => simp only [PE0] at h; subst h; exact ⟨x, by simp [Op.operands], hm⟩
  | pick c a b =>
    simp only [PE0] at h
    split at h
    · subst h
      split at hm
      · exact ⟨a, by simp [Op.operands], hm⟩
      · exact ⟨b, by simp [Op.operands], hm⟩
    · exact h.elim
  | nilCheck x =>
    simp only [PE0] at h
    refine ⟨x, by simp [Op.operands], ?_⟩
    split at h <;> first | exact h.elim | (rw [h] at hm; exact hm)
  | binOp op T x y T2 =>
    simp only [PE0] at h
    unfold binE at h
    split at h
    · split at h
      · exact absurd hm (shiftE_at h)
      · exact absurd hm (intE_at h.2)
    · exact absurd hm (boolE_at h.2)
    · exact h.elim
  | unOp op T x =>
    simp only [PE0] at h
    unfold unE at h
    split at h <;> first | exact h.elim | (subst h; exact hm.elim)
  | convert s d x =>
    simp only [PE0] at h
    unfold convE at h
    split at h
    · obtain ⟨-, k, -, rfl⟩ := h; exact hm.elim
    · exact h.elim
  | fieldAddr s x f =>
    obtain ⟨fs, fd, -, -, -, h⟩ := h
    refine ⟨x, by simp [Op.operands], ?_⟩
    split at h
    · rename_i e; subst h; rw [e]; exact hm
    · subst h; exact hm.elim
    · exact h.elim
  | field s x f =>
    obtain ⟨fs, fd, -, -, h⟩ := h
    refine ⟨x, by simp [Op.operands], ?_⟩
    split at h
    · rename_i cs e
      rw [e]
      rcases h with ⟨-, -, rfl⟩ | ⟨-, y, hy, rfl⟩
      · obtain ⟨c, hc, hq⟩ := hm
        exact ⟨c, List.mem_of_mem_drop (List.mem_of_mem_take hc), hq⟩
      · exact ⟨y, List.mem_of_getElem? hy, hm⟩
    · exact h.elim
  | indexAddr t x i =>
    rcases h with h | h
    case inr =>
      obtain ⟨n, e, -, -, h⟩ := h
      split at h
      · obtain ⟨-, -, rfl⟩ := h; exact hm.elim
      · exact h.elim
    obtain ⟨e, -, -, h⟩ := h
    refine ⟨x, by simp [Op.operands], ?_⟩
    split at h
    · obtain ⟨-, -, -, rfl⟩ := h; exact hm.elim
    · obtain ⟨-, -, -, rfl⟩ := h; exact hm.elim
    · obtain ⟨-, -, -, rfl⟩ := h; exact hm.elim
    · obtain ⟨-, -, -, rfl⟩ := h; exact hm.elim
    · rename_i e2 _; obtain ⟨-, -, rfl⟩ := h; rw [e2]; exact hm
    · rename_i e2 _; obtain ⟨-, -, rfl⟩ := h; rw [e2]; exact hm
    · exact h.elim
  | slice t x lo hi mx =>
    obtain ⟨rfl, e, -, -, h⟩ := h
    refine ⟨x, by simp [Op.operands], ?_⟩
    split at h
    · obtain ⟨-, l, q, -, rfl⟩ := h; exact hm.elim
    · obtain ⟨-, l, q, -, rfl⟩ := h; exact hm.elim
    · obtain ⟨-, l, q, -, rfl⟩ := h; exact hm.elim
    · obtain ⟨-, l, q, -, rfl⟩ := h; exact hm.elim
    · rename_i e2; obtain ⟨l, q, -, rfl, -⟩ := h; rw [e2]; exact hm
    · obtain ⟨l, q, -, rfl⟩ := h; exact hm.elim
    · exact h.elim
  | extract x i =>
    simp only [PE0] at h
    unfold extractE at h
    refine ⟨x, by simp [Op.operands], ?_⟩
    split at h
    · rename_i xs e
      rw [e]
      cases v with
      | tup ys => exact h.2.elim
      | c y => exact ⟨_, List.mem_of_getElem? h.1, hm⟩
      | agg y => exact ⟨_, List.mem_of_getElem? h.1, hm⟩
      | fn f y => exact ⟨_, List.mem_of_getElem? h.1, hm⟩
      | accv y k => exact ⟨_, List.mem_of_getElem? h.1, hm⟩
      | accp y k => exact ⟨_, List.mem_of_getElem? h.1, hm⟩
    · exact h.elim
  | build t ps =>
    obtain ⟨fs, z, out, -, -, h3, -, h5, rfl⟩ := h
    obtain ⟨c, hc, hq⟩ := hm
    rcases fillE_names h5 c hc with h | ⟨p, hp, h⟩
    · exact absurd hq (zero_at h3 h)
    · exact ⟨p.2, mem_pairs hp, cells_at h hq⟩
  | index t x i =>
    obtain ⟨-, h⟩ := h
    split at h
    · obtain ⟨-, b, -, rfl⟩ := h; exact hm.elim
    · exact h.elim
  | makeFunc g first cap =>
    simp only [PE0] at h
    split at h
    · obtain ⟨-, cs, h2, -, rfl⟩ := h
      obtain ⟨c, hc, hq⟩ := hm
      have : AVal.c c ∈ cap.toList.map r := by rw [h2]; exact List.mem_map.2 ⟨c, hc, rfl⟩
      obtain ⟨x, hx, e⟩ := List.mem_map.1 this
      exact ⟨x, by simp [Op.operands]; exact .inr (by simpa using hx), by rw [e]; exact hq⟩
    · exact h.elim
  | call c =>
    simp only [PE0] at h
    split at h
    · unfold builtinE at h
      split at h
      · obtain ⟨-, h⟩ := h
        split at h <;> first | exact h.elim | (subst h; exact hm.elim)
      · unfold minE at h
        split at h <;> first | exact h.elim | (subst h; exact hm.elim)
      · unfold minE at h
        split at h <;> first | exact h.elim | (subst h; exact hm.elim)
      · exact h.elim
    · exact h.elim
  | _ => exact h.elim

theorem FE_names {r : Operand → AVal} {op : Op} {v : AVal} (h : FE P r op v) {m : Nm} : ¬ v.at m := by
  cases op with
  | binOp op T x y T2 =>
    revert h
    show fbinE op (r x) (r y) v → _
    unfold fbinE
    split
    · split <;> first | (rintro rfl; exact fun h => h) | (rintro ⟨-, rfl⟩; exact fun h => h)
    · split <;> first | (rintro rfl; exact fun h => h) | exact fun h => h.elim
    · exact fun h => h.elim
  | unOp op T x =>
    revert h
    show funE op (r x) v → _
    unfold funE
    split <;> first | (rintro rfl; exact fun h => h) | exact fun h => h.elim
  | convert s d x =>
    revert h
    show fconvE P s d (r x) v → _
    unfold fconvE
    split
    · rintro ⟨-, -, rfl⟩; exact fun h => h
    · rintro ⟨-, ⟨-, rfl⟩ | ⟨k, p, n, -, -, -, -, -, rfl⟩⟩ <;> exact fun h => h
    · exact fun h => h.elim
  | call c =>
    obtain ⟨callee, args, tys⟩ := c
    cases callee with
    | builtin b =>
      revert h
      show fbuiltE b (args.toList.map r) v → _
      unfold fbuiltE
      split <;> first | (rintro rfl; exact fun h => h) | exact fun h => h.elim
    | value f => exact h.elim
    | invoke rc m => exact h.elim
  | _ => exact h.elim
theorem PE_names {r : Operand → AVal} {op : Op} {v : AVal} (h : PE P r op v) {m : Nm} (hm : v.at m) : ∃ x ∈ op.operands, (r x).at m := h.elim (fun h => PE0_names h hm) (fun h => absurd hm (FE_names h))
end
end Go.Abs

/-
  Operations that may change places.
-/
namespace Go.Abs
open Go

theorem upd_comm (S : Store) {m n : Nm} (a b : AObj) (h : m ≠ n) : upd (upd S m a) n b = upd (upd S n b) m a := by
  funext q; simp only [upd]
  by_cases h1 : q = m <;> by_cases h2 : q = n <;> simp_all

theorem updL_upd (ups : List (Nm × AObj)) : ∀ (S : Store) (n : Nm) (b : AObj), (∀ p ∈ ups, p.1 ≠ n) → updL (upd S n b) ups = upd (updL S ups) n b := by
  induction ups with
  | nil => intro S n b _; rfl
  | cons p ups ih =>
    intro S n b h
    show updL (upd (upd S n b) p.1 p.2) ups = upd (updL (upd S p.1 p.2) ups) n b
    rw [upd_comm S b p.2 (fun e => h p (by simp) e.symm), ih _ _ _ (fun q hq => h q (by simp [hq]))]

theorem updL_ne (ups : List (Nm × AObj)) : ∀ (S : Store) (n : Nm), (∀ p ∈ ups, p.1 ≠ n) → updL S ups n = S n := by
  induction ups with
  | nil => intro S n _; rfl
  | cons p ups ih =>
    intro S n h
    show updL (upd S p.1 p.2) ups n = S n
    rw [ih _ _ (fun q hq => h q (by simp [hq])), upd_ne S p.2 (fun e => h p (by simp) e.symm)]

theorem updL_dom (ups : List (Nm × AObj)) : ∀ (S : Store) (n : Nm), S n ≠ none → updL S ups n ≠ none := by
  induction ups with
  | nil => intro S n h; exact h
  | cons p ups ih =>
    intro S n h
    refine ih _ _ ?_
    unfold upd; split <;> simp_all

theorem updL_mem (ups : List (Nm × AObj)) : ∀ (S : Store) (n : Nm) (o : AObj), (n, o) ∈ ups → updL S ups n ≠ none := by
  induction ups with
  | nil => intro S n o h; cases h
  | cons p ups ih =>
    intro S n o h
    rcases List.mem_cons.1 h with rfl | h
    · exact updL_dom ups _ _ (by rw [upd_same]; simp)
    · exact ih _ _ _ h

theorem updL_get (ups : List (Nm × AObj)) : ∀ (S : Store) (n : Nm) (o : AObj), updL S ups n = some o → S n = some o ∨ (n, o) ∈ ups := by
  induction ups with
  | nil => intro S n o h; exact .inl h
  | cons p ups ih =>
    intro S n o h
    rcases ih _ _ _ h with h | h
    · by_cases e : n = p.1
      · subst e; rw [upd_same] at h; obtain rfl := Option.some.inj h; exact .inr (by simp)
      · rw [upd_ne S p.2 e] at h; exact .inl h
    · exact .inr (by simp [h])

section
variable {P : Program} {mu : FuncId → Bool}

theorem objDom {S : Store} {n m : Nm} (h : S n = none) {o : AObj} (hm : S m = some o) : m ≠ n := fun e => by subst e; rw [h] at hm; cases hm

theorem loadE_up {S : Store} {n : Nm} {b : AObj} {t : TypeId} {a v : AVal} (hn : S n = none) (h : loadE P S t a v) : loadE P (upd S n b) t a v := by
  unfold loadE at *
  split at h
  · obtain ⟨o, hm, h⟩ := h
    exact ⟨o, by rw [upd_ne S b (objDom hn hm)]; exact hm, h⟩
  · exact h
  · obtain ⟨ty, sz, L, i, j, c, hm, h⟩ := h
    exact ⟨ty, sz, L, i, j, c, by rw [upd_ne S b (objDom hn hm)]; exact hm, h⟩
  · exact h.elim

theorem loadE_down {S : Store} {n : Nm} {b : AObj} {t : TypeId} {a v : AVal} (ha : ¬ a.at n) (h : loadE P (upd S n b) t a v) : loadE P S t a v := by
  unfold loadE at *
  split at h
  · rename_i m off
    obtain ⟨o, hm, h⟩ := h
    exact ⟨o, by rw [upd_ne S b (fun e => ha (by rw [← e]; exact rfl))] at hm; exact hm, h⟩
  · exact h
  · obtain ⟨ty, sz, L, i, j, c, hm, h⟩ := h
    exact ⟨ty, sz, L, i, j, c, by rw [upd_ne S b (fun e => ha (by rw [← e]; exact rfl))] at hm; exact hm, h⟩
  · exact h.elim

theorem storeE_up {S S' : Store} {n : Nm} {b : AObj} {t : TypeId} {a x : AVal} (hn : S n = none) (h : storeE P S t a x S') : storeE P (upd S n b) t a x (upd S' n b) := by
  unfold storeE at *
  split at h
  · rcases h with ⟨ty, cs, hm, h1, h2, h3, h4, rfl⟩ | ⟨ty, k, L, y, hm, h2, h3, h4, rfl⟩ | ⟨ty, cs, y, hm, h2, h3, h1, h4, rfl⟩
    · have q := objDom hn hm
      exact .inl ⟨ty, cs, by rw [upd_ne S b q]; exact hm, h1, h2, h3, h4, upd_comm _ _ _ q⟩
    · have q := objDom hn hm
      exact .inr (.inl ⟨ty, k, L, y, by rw [upd_ne S b q]; exact hm, h2, h3, h4, upd_comm _ _ _ q⟩)
    · have q := objDom hn hm
      exact .inr (.inr ⟨ty, cs, y, by rw [upd_ne S b q]; exact hm, h2, h3, h1, h4, upd_comm _ _ _ q⟩)
  · exact h.elim

theorem storeE_down {S S' : Store} {n : Nm} {b : AObj} {t : TypeId} {a x : AVal} (ha : ¬ a.at n) (hn : S n = none) (h : storeE P (upd S n b) t a x S') : ∃ S1, storeE P S t a x S1 ∧ S' = upd S1 n b ∧ S1 n = none := by
  unfold storeE at *
  split at h
  · rename_i m off
    have q : m ≠ n := fun e => ha (by rw [← e]; exact rfl)
    rcases h with ⟨ty, cs, hm, h1, h2, h3, h4, rfl⟩ | ⟨ty, k, L, y, hm, h2, h3, h4, rfl⟩ | ⟨ty, cs, y, hm, h2, h3, h1, h4, rfl⟩
    · rw [upd_ne S b q] at hm
      exact ⟨_, .inl ⟨ty, cs, hm, h1, h2, h3, h4, rfl⟩, (upd_comm _ _ _ q).symm, by rw [upd_ne _ _ (fun e => q e.symm)]; exact hn⟩
    · rw [upd_ne S b q] at hm
      exact ⟨_, .inr (.inl ⟨ty, k, L, y, hm, h2, h3, h4, rfl⟩), (upd_comm _ _ _ q).symm, by rw [upd_ne _ _ (fun e => q e.symm)]; exact hn⟩
    · rw [upd_ne S b q] at hm
      exact ⟨_, .inr (.inr ⟨ty, cs, y, hm, h2, h3, h1, h4, rfl⟩), (upd_comm _ _ _ q).symm, by rw [upd_ne _ _ (fun e => q e.symm)]; exact hn⟩
  · exact h.elim

theorem eff_pure {fr : Fram} {S S' : Store} {o : Oper} {v : AVal} (hk : kind mu o.op = .pure) (h : eff P mu fr S o v S') : S' = S ∧ ∀ S1, eff P mu fr S1 o v S1 := by
  obtain ⟨dst, op, ty, pos, after, guard⟩ := o
  cases op with
  | call c =>
    obtain ⟨callee, args, tys⟩ := c
    cases callee with
    | value f => simp only [kind, kindC] at hk; split at hk <;> first | (split at hk <;> cases hk) | cases hk
    | invoke rc m => exact ⟨h.2, fun S1 => ⟨h.1, rfl⟩⟩
    | builtin b => exact ⟨h.2, fun S1 => ⟨h.1, rfl⟩⟩
  | load _ _ => cases hk
  | store _ _ _ => cases hk
  | alloc _ => cases hk
  | box _ _ => cases hk
  | buildSlice _ _ _ => cases hk
  | makeSlice _ _ _ => cases hk
  | _ => exact ⟨h.2, fun S1 => ⟨h.1, rfl⟩⟩

theorem eff_new {fr : Fram} {S S' : Store} {o : Oper} {v : AVal} (hk : kind mu o.op = .new) (h : eff P mu fr S o v S') :
    ∃ d ob, o.dst = some d ∧ S (.loc d) = none ∧ S' = upd S (.loc d) ob ∧ ∀ S1, S1 (.loc d) = none → eff P mu fr S1 o v (upd S1 (.loc d) ob) := by
  obtain ⟨dst, op, ty, pos, after, guard⟩ := o
  cases op with
  | alloc _ => obtain ⟨d, ob, h1, h2, h3, h4⟩ := h; exact ⟨d, ob, h1, h2, h4, fun S1 hS => ⟨d, ob, h1, hS, h3, rfl⟩⟩
  | box _ _ => obtain ⟨d, ob, h1, h2, h3, h4⟩ := h; exact ⟨d, ob, h1, h2, h4, fun S1 hS => ⟨d, ob, h1, hS, h3, rfl⟩⟩
  | buildSlice _ _ _ => obtain ⟨d, ob, h1, h2, h3, h4⟩ := h; exact ⟨d, ob, h1, h2, h4, fun S1 hS => ⟨d, ob, h1, hS, h3, rfl⟩⟩
  | makeSlice _ _ _ => obtain ⟨d, ob, h1, h2, h3, h4⟩ := h; exact ⟨d, ob, h1, h2, h4, fun S1 hS => ⟨d, ob, h1, hS, h3, rfl⟩⟩
  | call c =>
    obtain ⟨callee, args, tys⟩ := c
    cases callee with
    | value f => simp only [kind, kindC] at hk; split at hk <;> first | (split at hk <;> cases hk) | cases hk
    | invoke rc m => cases hk
    | builtin b => cases b <;> cases hk
  | _ => cases hk

def opsNo (fr : Fram) (o : Oper) (n : Nm) : Prop := ∀ x ∈ o.op.operands, ¬ (look fr x).at n

theorem call_no {fr : Fram} {o : Oper} {n : Nm} {f : Operand} {args : Array Operand} {tys : Array TypeId} (ho : o.op = .call ⟨.value f, args, tys⟩) (hno : opsNo fr o n) {g : FuncId} {caps : List Cell} (hf : look fr f = .fn g caps)
    {as' : List AVal} (hle : ALes (args.toList.map (look fr) ++ caps.map .c) as') : ¬ ∃ x ∈ as', x.at n := by
  intro h
  obtain ⟨x, hx, hq⟩ := hle.at h
  rcases List.mem_append.1 hx with hx | hx
  · obtain ⟨y, hy, rfl⟩ := List.mem_map.1 hx
    exact hno y (by rw [ho]; simp [Op.operands, Call.operands]; exact .inr (by simpa using hy)) hq
  · obtain ⟨c, hc, rfl⟩ := List.mem_map.1 hx
    exact hno f (by rw [ho]; simp [Op.operands, Call.operands]) (by rw [hf]; exact ⟨c, hc, hq⟩)

theorem rch_no {Φ S : Store} {as' : List AVal} {n : Nm} (hcl : ∀ m b, S m = some b → b.cl S) (hn : S n = none) (hq : ¬ ∃ x ∈ as', x.at n) {S1 : Store} (h1 : ∀ m, m ≠ n → S1 m = S m) (h : ∀ m, Rch Φ as' m → S1 m = Φ m) : ∀ m, Rch Φ as' m → m ≠ n := by
  intro m hm
  induction hm with
  | base hx hm => intro e; subst e; exact hq ⟨_, hx, hm⟩
  | step hr ho hc hqq ih =>
    rename_i m q o c
    intro e
    subst e
    have h2 : S m = some o := by rw [← h1 m ih, h m hr]; exact ho
    exact AObj.cl_cls.1 (hcl m o h2) c hc _ hqq hn

theorem nmOf_ne {d : Option Nat} {k : Nat} (h : d ≠ some k) : nmOf d ≠ .loc k := by
  cases d with
  | none => simp [nmOf]
  | some q => simp only [nmOf, ne_eq, Nm.loc.injEq]; exact fun e => h (by rw [e])

theorem eff_up {fr : Fram} {S S' : Store} {o : Oper} {v : AVal} {k : Nat} {b : AObj} (hcl : ∀ m b, S m = some b → b.cl S) (hn : S (.loc k) = none) (hd : o.dst ≠ some k) (hno : opsNo fr o (.loc k)) (h : eff P mu fr S o v S') :
    eff P mu fr (upd S (.loc k) b) o v (upd S' (.loc k) b) := by
  obtain ⟨dst, op, ty, pos, after, guard⟩ := o
  have made : ∀ {op : Op}, (∃ d ob, dst = some d ∧ S (.loc d) = none ∧ newE P (look fr) d op v ob ∧ S' = upd S (.loc d) ob) →
      ∃ d ob, dst = some d ∧ (upd S (.loc k) b) (.loc d) = none ∧ newE P (look fr) d op v ob ∧ upd S' (.loc k) b = upd (upd S (.loc k) b) (.loc d) ob := by
    rintro op ⟨d, ob, rfl, h2, h3, rfl⟩
    have q : Nm.loc d ≠ Nm.loc k := fun e => hd (by injection e with e; subst e; rfl)
    exact ⟨d, ob, rfl, by rw [upd_ne _ _ q]; exact h2, h3, upd_comm _ _ _ q⟩
  cases op with
  | load t a => obtain ⟨h1, rfl⟩ := h; exact ⟨loadE_up hn h1, rfl⟩
  | store t a x => obtain ⟨h1, rfl⟩ := h; exact ⟨storeE_up hn h1, rfl⟩
  | alloc e => exact made h
  | box e x => exact made h
  | buildSlice t n ps => exact made h
  | makeSlice t l c => exact made h
  | call c =>
    obtain ⟨callee, args, tys⟩ := c
    cases callee with
    | value f =>
      obtain ⟨g, caps, as', Φ, res, ups, h1, h2, h3, h4, h5, rfl, rfl, h6, h7, h8, h9⟩ := h
      have hq := call_no (f := f) (args := args) (tys := tys) rfl hno h1 h2
      have hnd := nmOf_ne (d := dst) hd
      have hrc := rch_no hcl hn hq (fun _ _ => rfl) h4
      refine ⟨g, caps, as', Φ, res, ups, h1, h2, h3, fun m hm => ?_, ⟨by rw [upd_ne _ _ hnd]; exact h5.1, fun i => by rw [upd_ne _ _ (fun e => by cases e)]; exact h5.2 i⟩, rfl, ?_, h6, h7, h8, h9⟩
      · rw [upd_ne _ _ (hrc m hm)]; exact h4 m hm
      · refine (updL_upd _ _ _ _ (fun p hp e => ?_)).symm
        rcases h6 p hp with q | ⟨i, q⟩ | ⟨-, q⟩
        · exact hnd (by rw [← q, e])
        · rw [q] at e; cases e
        · exact hrc _ q e
    | invoke rc m => obtain ⟨h1, rfl⟩ := h; exact ⟨h1, rfl⟩
    | builtin b => obtain ⟨h1, rfl⟩ := h; exact ⟨h1, rfl⟩
  | _ => obtain ⟨h1, rfl⟩ := h; exact ⟨h1, rfl⟩

theorem eff_down {fr : Fram} {S S1 : Store} {o : Oper} {v : AVal} {k : Nat} {b : AObj} (hcl : ∀ m b, S m = some b → b.cl S) (hn : S (.loc k) = none) (hd : o.dst ≠ some k) (hno : opsNo fr o (.loc k)) (h : eff P mu fr (upd S (.loc k) b) o v S1) :
    ∃ S', eff P mu fr S o v S' ∧ S1 = upd S' (.loc k) b ∧ S' (.loc k) = none := by
  obtain ⟨dst, op, ty, pos, after, guard⟩ := o
  have made : ∀ {op : Op}, (∃ d ob, dst = some d ∧ (upd S (.loc k) b) (.loc d) = none ∧ newE P (look fr) d op v ob ∧ S1 = upd (upd S (.loc k) b) (.loc d) ob) →
      ∃ S', (∃ d ob, dst = some d ∧ S (.loc d) = none ∧ newE P (look fr) d op v ob ∧ S' = upd S (.loc d) ob) ∧ S1 = upd S' (.loc k) b ∧ S' (.loc k) = none := by
    rintro op ⟨d, ob, rfl, h2, h3, rfl⟩
    have q : Nm.loc d ≠ Nm.loc k := fun e => hd (by injection e with e; subst e; rfl)
    exact ⟨_, ⟨d, ob, rfl, by rw [upd_ne _ _ q] at h2; exact h2, h3, rfl⟩, (upd_comm _ _ _ q).symm, by rw [upd_ne _ _ (fun e => q e.symm)]; exact hn⟩
  cases op with
  | load t a => obtain ⟨h1, rfl⟩ := h; exact ⟨S, ⟨loadE_down (hno a (by simp [Op.operands])) h1, rfl⟩, rfl, hn⟩
  | store t a x =>
    obtain ⟨h1, rfl⟩ := h
    obtain ⟨S2, h2, h3, h4⟩ := storeE_down (hno a (by simp [Op.operands])) hn h1
    exact ⟨S2, ⟨h2, rfl⟩, h3, h4⟩
  | alloc e => exact made h
  | box e x => exact made h
  | buildSlice t n ps => exact made h
  | makeSlice t l c => exact made h
  | call c =>
    obtain ⟨callee, args, tys⟩ := c
    cases callee with
    | value f =>
      obtain ⟨g, caps, as', Φ, res, ups, h1, h2, h3, h4, h5, rfl, rfl, h6, h7, h8, h9⟩ := h
      have hq := call_no (f := f) (args := args) (tys := tys) rfl hno h1 h2
      have hnd := nmOf_ne (d := dst) hd
      have hrc := rch_no hcl hn hq (fun m hm => upd_ne _ _ hm) h4
      have hups : ∀ p ∈ ups (nmOf dst), p.1 ≠ Nm.loc k := fun p hp e => by
        rcases h6 p hp with q | ⟨i, q⟩ | ⟨-, q⟩
        · exact hnd (by rw [← q, e])
        · rw [q] at e; cases e
        · exact hrc _ q e
      refine ⟨updL S (ups (nmOf dst)), ⟨g, caps, as', Φ, res, ups, h1, h2, h3, fun m hm => ?_, ⟨by have := h5.1; rwa [upd_ne _ _ hnd] at this, fun i => by have := h5.2 i; rwa [upd_ne _ _ (fun e => by cases e)] at this⟩, rfl, rfl, h6, h7, h8, h9⟩, updL_upd _ _ _ _ hups, by rw [updL_ne _ _ _ hups]; exact hn⟩
      have := h4 m hm
      rwa [upd_ne _ _ (hrc m hm)] at this
    | invoke rc m => obtain ⟨h1, rfl⟩ := h; exact ⟨S, ⟨h1, rfl⟩, rfl, hn⟩
    | builtin b => obtain ⟨h1, rfl⟩ := h; exact ⟨S, ⟨h1, rfl⟩, rfl, hn⟩
  | _ => obtain ⟨h1, rfl⟩ := h; exact ⟨S, ⟨h1, rfl⟩, rfl, hn⟩

theorem eff_read {fr : Fram} {S S' : Store} {o : Oper} {v : AVal} (hk : kind mu o.op = .read) (h : eff P mu fr S o v S') :
    S' = S ∨ ∃ d ob, o.dst = some d ∧ S (.loc d) = none ∧ S' = upd S (.loc d) ob := by
  obtain ⟨dst, op, ty, pos, after, guard⟩ := o
  cases op with
  | load t a => exact .inl h.2
  | call c =>
    obtain ⟨callee, args, tys⟩ := c
    cases callee with
    | value f =>
      obtain ⟨g, caps, as', Φ, res, ups, h1, h2, h3, h4, h5, rfl, rfl, h6, h7, h8, h9⟩ := h
      simp only [kind, kindC] at hk
      split at hk
      · rename_i q
        have hg : mu g = false := by
          simp only [look] at h1
          injection h1 with h1 _
          subst h1
          split at hk
          · cases hk
          · rename_i hm; simpa using hm
        rcases h7 with e | e | ⟨d, o, rfl, e⟩
        · rw [e]; exact .inl rfl
        · rw [hg] at e; cases e
        · rw [e]; exact .inr ⟨d, o, rfl, h5.1, rfl⟩
      · cases hk
    | invoke rc m => cases hk
    | builtin b => cases b <;> cases hk
  | _ => cases hk
end
end Go.Abs

/-
  Regions that draw their order: one order serves for all.
-/
namespace Go.Abs
open Go

abbrev undefA : AVal := .c (.sc undef)

structure WF (fr : Fram) (S : Store) : Prop where
  f : ∀ t m, (fr t).at m → S m ≠ none
  o : ∀ n b, S n = some b → b.cl S

section
variable {P : Program} {mu : FuncId → Bool}

theorem upd_dom {S : Store} {n m : Nm} {b : AObj} (h : S m ≠ none) : upd S n b m ≠ none := by
  unfold upd; split
  · simp
  · exact h

theorem eff_dom {fr : Fram} {S S' : Store} {o : Oper} {v : AVal} (h : eff P mu fr S o v S') {m : Nm} (hm : S m ≠ none) : S' m ≠ none := by
  obtain ⟨dst, op, ty, pos, after, guard⟩ := o
  cases op with
  | load t a => obtain ⟨-, rfl⟩ := h; exact hm
  | store t a x =>
    obtain ⟨h1, -⟩ := h
    unfold storeE at h1
    split at h1
    · rcases h1 with ⟨_, _, _, _, _, _, _, rfl⟩ | ⟨_, _, _, _, _, _, _, _, rfl⟩ | ⟨_, _, _, _, _, _, _, _, rfl⟩ <;> exact upd_dom hm
    · exact h1.elim
  | alloc e => obtain ⟨d, ob, _, _, _, rfl⟩ := h; exact upd_dom hm
  | box e x => obtain ⟨d, ob, _, _, _, rfl⟩ := h; exact upd_dom hm
  | buildSlice t n ps => obtain ⟨d, ob, _, _, _, rfl⟩ := h; exact upd_dom hm
  | makeSlice t l c => obtain ⟨d, ob, _, _, _, rfl⟩ := h; exact upd_dom hm
  | call c =>
    obtain ⟨callee, args, tys⟩ := c
    cases callee with
    | value f => obtain ⟨g, caps, as', Φ, res, ups, h1, h2, h3, h4, h5, rfl, rfl, -⟩ := h; exact updL_dom _ _ _ hm
    | invoke rc m => obtain ⟨-, rfl⟩ := h; exact hm
    | builtin b => obtain ⟨-, rfl⟩ := h; exact hm
  | _ => obtain ⟨-, rfl⟩ := h; exact hm

theorem WF.look {fr : Fram} {S : Store} (h : WF fr S) (x : Operand) {m : Nm} (hm : (look fr x).at m) : S m ≠ none := by
  cases x with
  | tmp t => exact h.f t m hm
  | const v => exact absurd hm (cellC_nm v)
  | global g => simp only [Abs.look] at hm; split at hm <;> exact hm.elim
  | func f => obtain ⟨c, hc, -⟩ := hm; simp at hc

theorem WF.no {fr : Fram} {S : Store} (h : WF fr S) {n : Nm} (hn : S n = none) (o : Oper) : opsNo fr o n := fun x _ hx => h.look x hx hn

theorem cl_mono {S S' : Store} (h : ∀ m, S m ≠ none → S' m ≠ none) {b : AObj} (hb : b.cl S) : b.cl S' := by
  cases b with
  | cells ty cs => exact fun x hx m hm => h m (hb x hx m hm)
  | ints ty k L => trivial
  | fix x => trivial
  | row ty cs => exact fun x hx m hm => h m (hb x hx m hm)
  | acc ty k L => exact fun c hc x hx m hm => h m (hb c hc x hx m hm)

theorem newE_names {r : Operand → AVal} {d : Nat} {op : Op} {v : AVal} {ob : AObj} (h : newE P r d op v ob) :
    (∀ m, v.at m → m = .loc d) ∧ ∀ x ∈ ob.cls, ∀ m, x.at m → ∃ y ∈ op.operands, (r y).at m := by
  cases op with
  | alloc e =>
    obtain ⟨z, h1, -, rfl, rfl⟩ := h
    exact ⟨fun m hm => hm.symm, fun x hx m hm => absurd hm (zero_at h1 hx)⟩
  | box e x =>
    obtain ⟨h1, rfl, rfl⟩ := h
    exact ⟨fun m hm => hm.symm, fun y hy m hm => ⟨x, by simp [Op.operands], cells_at hy hm⟩⟩
  | buildSlice t n ps =>
    obtain ⟨e, z, out, -, -, -, h4, -, -, h7, h8⟩ := h
    have key : ∀ x ∈ out, ∀ m, x.at m → ∃ y ∈ (Op.buildSlice t n ps).operands, (r y).at m := by
      intro x hx m hm
      rcases fillE_names h7 x hx with q | ⟨p, hp, q⟩
      · unfold rep at q
        obtain ⟨l, hl, q⟩ := List.mem_flatten.1 q
        rw [(List.mem_replicate.1 hl).2] at q
        exact absurd hm (zero_at h4 q)
      · exact ⟨p.2, mem_pairs hp, cells_at q hm⟩
    rcases h8 with ⟨rfl, h8⟩ | ⟨R, rfl, -, -, rfl, rfl⟩
    · refine ⟨fun m hm => hm.symm, fun x hx m hm => ?_⟩
      rcases h8 with rfl | ⟨k, L, -, rfl⟩
      · exact key x hx m hm
      · cases hx
    · exact ⟨fun m hm => hm.symm, key⟩
  | makeSlice t l c =>
    obtain ⟨e, z, -, -, h4, -, -, h7⟩ := h
    split at h7
    · obtain ⟨-, -, -, -, ⟨rfl, h8⟩ | ⟨-, rfl, rfl⟩⟩ := h7
      · refine ⟨fun m hm => hm.symm, fun x hx m hm => ?_⟩
        rcases h8 with rfl | ⟨k, y, -, rfl⟩
        · change x ∈ rep _ z at hx
          unfold rep at hx
          obtain ⟨l, hl, q⟩ := List.mem_flatten.1 hx
          rw [(List.mem_replicate.1 hl).2] at q
          exact absurd hm (zero_at h4 q)
        · cases hx
      · refine ⟨fun m hm => hm.symm, fun x hx m hm => ?_⟩
        obtain ⟨l, hl, q⟩ := List.mem_flatten.1 hx
        rw [(List.mem_replicate.1 hl).2] at q
        exact absurd hm (zero_at h4 q)
    · exact h7.elim
  | _ => exact h.elim

theorem eff_WF {fr : Fram} {S S' : Store} {o : Oper} {v : AVal} (hw : WF fr S) (h : eff P mu fr S o v S') : (∀ m, v.at m → S' m ≠ none) ∧ ∀ n b, S' n = some b → b.cl S' := by
  have hdom : ∀ m, S m ≠ none → S' m ≠ none := fun m hm => eff_dom h hm
  obtain ⟨dst, op, ty, pos, after, guard⟩ := o
  have plain : ∀ {op : Op}, PE P (look fr) op v → S' = S → (∀ m, v.at m → S' m ≠ none) ∧ ∀ n b, S' n = some b → b.cl S' := by
    rintro op hp rfl
    exact ⟨fun m hm => by obtain ⟨x, -, q⟩ := PE_names hp hm; exact hw.look x q, hw.o⟩
  have made : ∀ {op : Op}, (∃ d ob, dst = some d ∧ S (.loc d) = none ∧ newE P (look fr) d op v ob ∧ S' = upd S (.loc d) ob) → (∀ m, v.at m → S' m ≠ none) ∧ ∀ n b, S' n = some b → b.cl S' := by
    rintro op ⟨d, ob, -, h2, h3, rfl⟩
    obtain ⟨h4, h5⟩ := newE_names h3
    refine ⟨fun m hm => by rw [h4 m hm, upd_same]; simp, fun n b hb => ?_⟩
    by_cases e : n = .loc d
    · subst e
      rw [upd_same] at hb
      obtain rfl := Option.some.inj hb
      exact AObj.cl_cls.2 fun x hx m hm => by obtain ⟨y, -, q⟩ := h5 x hx m hm; exact hdom m (hw.look y q)
    · rw [upd_ne _ _ e] at hb; exact cl_mono hdom (hw.o n b hb)
  cases op with
  | load t a =>
    obtain ⟨h1, rfl⟩ := h
    refine ⟨fun m hm => ?_, hw.o⟩
    unfold loadE at h1
    split at h1
    · rename_i n off ea
      obtain ⟨b, hb, h1⟩ := h1
      have hc := hw.o n b hb
      rcases h1 with ⟨-, -, ty, cs, rfl, -, rfl⟩ | ⟨-, x, hx, rfl⟩
      · obtain ⟨c, hc2, q⟩ := hm
        exact hc c (List.mem_of_mem_drop (List.mem_of_mem_take hc2)) m q
      · cases b with
        | cells ty cs => exact hc x (List.mem_of_getElem? hx) m hm
        | ints ty k L =>
          simp only [objCell, Option.map_eq_some_iff] at hx
          obtain ⟨y, -, rfl⟩ := hx
          exact hm.elim
        | acc ty k L => cases hx
        | fix x => cases hx
        | row ty cs => exact hc x (List.mem_of_getElem? hx) m hm
    · rcases h1 with ⟨-, -, -, rfl⟩ | ⟨-, x, -, rfl⟩
      · obtain ⟨c, hc2, q⟩ := hm
        obtain ⟨y, -, rfl⟩ := List.mem_map.1 hc2
        cases y <;> exact q.elim
      · cases x <;> exact hm.elim
    · obtain ⟨ty, sz, L, i, j, c, hb, -, hL, h1⟩ := h1
      have hc := hw.o _ _ hb
      rcases h1 with ⟨-, -, -, rfl⟩ | ⟨-, x, hx, rfl⟩
      · obtain ⟨y, hc2, q⟩ := hm
        exact hc c (List.mem_of_getElem? hL) y (List.mem_of_mem_drop (List.mem_of_mem_take hc2)) m q
      · exact hc c (List.mem_of_getElem? hL) x (List.mem_of_getElem? hx) m hm
    · exact h1.elim
  | store t a x =>
    obtain ⟨h1, rfl⟩ := h
    refine ⟨fun m hm => hm.elim, fun n b hb => ?_⟩
    unfold storeE at h1
    split at h1
    · rename_i p off ea
      rcases h1 with ⟨ty, cs, hm, h2, h3, h4, h5, rfl⟩ | ⟨ty, k, L, y, hm, h3, h4, h5, rfl⟩ | ⟨ty, cs, y, hm, h3, hxy, h4, h5, rfl⟩
      · by_cases e : n = p
        · subst e
          rw [upd_same] at hb
          obtain rfl := Option.some.inj hb
          intro c hc m hq
          rcases spl_mem hc with q | q
          · exact hdom m (hw.o _ _ hm c q m hq)
          · exact hdom m (hw.look x (cells_at q hq))
        · rw [upd_ne _ _ e] at hb; exact cl_mono hdom (hw.o n b hb)
      · by_cases e : n = p
        · subst e
          rw [upd_same] at hb
          obtain rfl := Option.some.inj hb
          trivial
        · rw [upd_ne _ _ e] at hb; exact cl_mono hdom (hw.o n b hb)
      · by_cases e : n = p
        · subst e
          rw [upd_same] at hb
          obtain rfl := Option.some.inj hb
          intro c hc m hq
          rcases List.mem_or_eq_of_mem_set hc with q | rfl
          · exact hdom m (hw.o _ _ hm c q m hq)
          · exact hdom m (hw.look x (by rw [hxy]; exact hq))
        · rw [upd_ne _ _ e] at hb; exact cl_mono hdom (hw.o n b hb)
    · exact h1.elim
  | alloc e => exact made h
  | box e x => exact made h
  | buildSlice t n ps => exact made h
  | makeSlice t l c => exact made h
  | call c =>
    obtain ⟨callee, args, tys⟩ := c
    cases callee with
    | value f =>
      obtain ⟨g, caps, as', Φ, res, ups, h1, h2, h3, h4, h5, rfl, rfl, h6, h7, h8, h9⟩ := h
      have hargs : ∀ m, (∃ x ∈ as', x.at m) → S m ≠ none := by
        intro m hm
        obtain ⟨x, hx, hq⟩ := h2.at hm
        rcases List.mem_append.1 hx with hx | hx
        · obtain ⟨y, -, rfl⟩ := List.mem_map.1 hx
          exact hw.look y hq
        · obtain ⟨c, hc, rfl⟩ := List.mem_map.1 hx
          exact hw.look f (by rw [h1]; exact ⟨c, hc, hq⟩)
      have hrch : ∀ m, Rch Φ as' m → S m ≠ none := by
        intro m hm
        induction hm with
        | base hx hm => exact hargs _ ⟨_, hx, hm⟩
        | step hr ho hc hqq ih =>
          rename_i m q o c
          exact AObj.cl_cls.1 (hw.o m o (by rw [h4 m hr]; exact ho)) c hc _ hqq
      refine ⟨fun m hm => ?_, fun n b hb => ?_⟩
      · rcases h8 m hm with ⟨o, ho⟩ | q
        · exact updL_mem _ _ _ _ ho
        · exact hdom m (hrch m q)
      · rcases updL_get _ _ _ _ hb with q | q
        · exact cl_mono hdom (hw.o n b q)
        · refine AObj.cl_cls.2 fun x hx m hm => ?_
          rcases h9 _ q x hx m hm with ⟨o, ho⟩ | q2
          · exact updL_mem _ _ _ _ ho
          · exact hdom m (hrch m q2)
    | invoke rc m => exact plain h.1 h.2
    | builtin b => exact plain h.1 h.2
  | _ => exact plain h.1 h.2

/-! ### Guards -/
def gd (ops : Array Oper) (fr : Fram) (o : Oper) : Option Bool :=
  match o.guard with
  | none => some true
  | some (j, want) => match yA ops fr j with
    | some (some b) => some (b == want)
    | some none => some false
    | none => none

def isApp (mu : FuncId → Bool) (o : Oper) : Prop := kind mu o.op = .app

def aRes (P : Program) (mu : FuncId → Bool) (ops : Array Oper) (o : Oper) (fr : Fram) (S : Store) (v : AVal) (S' : Store) : Prop :=
  (gd ops fr o = some true ∧ eff P mu fr S o v S') ∨ (gd ops fr o = some false ∧ v = undefA ∧ S' = S)

theorem aExec_eff {o : Oper} (hk : ¬ isApp mu o) {st st' : St} : aExec P mu o st st' ↔ ∃ v S', eff P mu st.fr st.sg o v S' ∧ st' = ⟨putF st.fr o.dst v, S'⟩ := by
  obtain ⟨dst, op, ty, pos, after, guard⟩ := o
  cases op with
  | call c =>
    have hk' : ¬ kindC mu c = .app := hk
    simp only [aExec, if_neg hk']
  | _ => rfl

theorem aStep_res {ops : Array Oper} {o : Oper} (hk : ¬ isApp mu o) {st st' : St} : aStep P mu ops o st st' ↔ ∃ v S', aRes P mu ops o st.fr st.sg v S' ∧ st' = ⟨putF st.fr o.dst v, S'⟩ := by
  unfold aStep aRes gd
  cases hg : o.guard with
  | none => simp [aExec_eff hk]
  | some jw =>
    obtain ⟨j, want⟩ := jw
    simp only
    cases hy : yA ops st.fr j with
    | none => simp
    | some x =>
      cases x with
      | none =>
        simp only [Option.some.injEq, Bool.false_eq_true, false_and, true_and, false_or]
        constructor
        · rintro rfl; exact ⟨_, _, ⟨rfl, rfl⟩, rfl⟩
        · rintro ⟨v, S', ⟨rfl, rfl⟩, rfl⟩; rfl
      | some b =>
        simp only [Option.some.injEq, beq_iff_eq, beq_eq_false_iff_ne, ne_eq]
        by_cases e : b = want
        · subst e
          simp only [forall_const, not_true_eq_false, false_imp_iff, and_true, true_and, false_and, or_false]
          exact aExec_eff hk
        · simp only [e, false_imp_iff, not_false_eq_true, forall_const, true_and, false_and, false_or]
          constructor
          · rintro rfl; exact ⟨_, _, ⟨rfl, rfl⟩, rfl⟩
          · rintro ⟨v, S', ⟨rfl, rfl⟩, rfl⟩; rfl

theorem aRes_dom {ops : Array Oper} {o : Oper} {fr : Fram} {S S' : Store} {v : AVal} (h : aRes P mu ops o fr S v S') {m : Nm} (hm : S m ≠ none) : S' m ≠ none := by
  rcases h with ⟨-, h⟩ | ⟨-, -, rfl⟩
  · exact eff_dom h hm
  · exact hm

theorem aStep_WF {ops : Array Oper} {o : Oper} (hk : ¬ isApp mu o) {st st' : St} (h : aStep P mu ops o st st') (hw : WF st.fr st.sg) : WF st'.fr st'.sg := by
  obtain ⟨v, S', h1, rfl⟩ := (aStep_res hk).1 h
  have hb : (∀ m, v.at m → S' m ≠ none) ∧ ∀ n b, S' n = some b → b.cl S' := by
    rcases h1 with ⟨-, h1⟩ | ⟨-, rfl, rfl⟩
    · exact eff_WF hw h1
    · exact ⟨fun m hm => hm.elim, hw.o⟩
  refine ⟨fun t m hm => ?_, hb.2⟩
  have hm' : (putF st.fr o.dst v t).at m := hm
  cases e : o.dst with
  | none => rw [e] at hm'; exact aRes_dom h1 (hw.f t m hm')
  | some d =>
    rw [e] at hm'
    by_cases q : t = d
    · subst q
      simp only [putF, if_true] at hm'
      exact hb.1 m hm'
    · simp only [putF, if_neg q] at hm'
      exact aRes_dom h1 (hw.f t m hm')

theorem look_put {fr : Fram} {d : Option Nat} {v : AVal} {x : Operand} (h : ∀ t, d = some t → x ≠ .tmp t) : look (putF fr d v) x = look fr x := by
  cases x with
  | tmp t =>
    cases d with
    | none => rfl
    | some d =>
      have : t ≠ d := fun e => h d rfl (by rw [e])
      simp [look, putF, this]
  | _ => rfl

theorem gd_put {ops : Array Oper} {fr : Fram} {o : Oper} {d : Option Nat} {v : AVal} (h : ∀ t, d = some t → t ∉ o.looksAt ops) : gd ops (putF fr d v) o = gd ops fr o := by
  unfold gd
  cases hg : o.guard with
  | none => rfl
  | some jw =>
    obtain ⟨j, want⟩ := jw
    simp only
    have : yA ops (putF fr d v) j = yA ops fr j := by
      unfold yA
      cases e : (ops[j]?).bind (·.dst) with
      | none => rfl
      | some t =>
        have hne : d ≠ some t := fun q => h t q (by simp [Oper.looksAt, hg, e])
        cases d with
        | none => rfl
        | some d => simp [putF, show t ≠ d from fun q => hne (by rw [q])]
    rw [this]

theorem ops_put {ops : Array Oper} {fr : Fram} {o : Oper} {d : Option Nat} {v : AVal} (h : ∀ t, d = some t → t ∉ o.looksAt ops) : ∀ x ∈ o.op.operands, look (putF fr d v) x = look fr x := fun x hx =>
  look_put fun t ht e => h t ht (by
    subst e
    exact List.mem_append_left _ (List.mem_filterMap.2 ⟨.tmp t, by simpa using hx, rfl⟩))

theorem aRes_put {ops : Array Oper} {fr : Fram} {o : Oper} {d : Option Nat} {u : AVal} (h : ∀ t, d = some t → t ∉ o.looksAt ops) {S S' : Store} {v : AVal} :
    aRes P mu ops o (putF fr d u) S v S' ↔ aRes P mu ops o fr S v S' := by
  unfold aRes
  rw [gd_put h]
  have e : eff P mu (putF fr d u) S o v S' ↔ eff P mu fr S o v S' := ⟨eff_congr (ops_put h), eff_congr (fun x hx => (ops_put h x hx).symm)⟩
  rw [e]

theorem putF_comm {fr : Fram} {d e : Option Nat} {u v : AVal} (h : ∀ t, d = some t → e ≠ some t) : putF (putF fr d u) e v = putF (putF fr e v) d u := by
  cases d with
  | none => rfl
  | some d =>
    cases e with
    | none => rfl
    | some e =>
      have hne : d ≠ e := fun q => h d rfl (by rw [q])
      funext t
      simp only [putF]
      by_cases h1 : t = d <;> by_cases h2 : t = e <;> simp_all

def kOk : Kind → Kind → Bool
  | .app, _ => false
  | _, .app => false
  | .pure, _ => true
  | _, .pure => true
  | .new, _ => true
  | _, .new => true
  | .read, .read => true
  | _, _ => false

theorem swap_eff {fr : Fram} {S S1 S2 : Store} {oi oj : Oper} {vi vj : AVal} (hw : WF fr S) (hk : kOk (kind mu oi.op) (kind mu oj.op) = true) (hd : ∀ t, oi.dst = some t → oj.dst ≠ some t)
    (hi : eff P mu fr S oi vi S1) (hj : eff P mu fr S1 oj vj S2) : ∃ S1', eff P mu fr S oj vj S1' ∧ eff P mu fr S1' oi vi S2 := by
  by_cases k1 : kind mu oi.op = .pure
  · obtain ⟨rfl, h⟩ := eff_pure k1 hi
    exact ⟨S2, hj, h S2⟩
  by_cases k2 : kind mu oj.op = .pure
  · obtain ⟨rfl, h⟩ := eff_pure k2 hj
    exact ⟨S, h S, hi⟩
  by_cases k3 : kind mu oi.op = .new
  · obtain ⟨d, ob, h1, h2, rfl, h3⟩ := eff_new k3 hi
    obtain ⟨S', h4, rfl, h5⟩ := eff_down hw.o h2 (hd d h1) (hw.no h2 oj) hj
    exact ⟨S', h4, h3 S' h5⟩
  by_cases k4 : kind mu oj.op = .new
  · obtain ⟨d, ob, h1, h2, rfl, h3⟩ := eff_new k4 hj
    have hS : S (.loc d) = none := by
      cases e : S (.loc d) with
      | none => rfl
      | some x => exact absurd h2 (eff_dom hi (by rw [e]; simp))
    exact ⟨_, h3 S hS, eff_up hw.o hS (fun e => hd d e h1) (hw.no hS oi) hi⟩
  have k5 : kind mu oi.op = .read ∧ kind mu oj.op = .read := by
    revert hk k1 k2 k3 k4
    generalize kind mu oi.op = a
    generalize kind mu oj.op = b
    cases a <;> cases b <;> simp [kOk]
  rcases eff_read k5.1 hi with rfl | ⟨d, ob, h1, h2, rfl⟩
  · rcases eff_read k5.2 hj with rfl | ⟨d', ob', g1, g2, rfl⟩
    · exact ⟨_, hj, hi⟩
    · exact ⟨_, hj, eff_up hw.o g2 (fun e => hd d' e g1) (hw.no g2 oi) hi⟩
  · obtain ⟨S', h4, rfl, h5⟩ := eff_down hw.o h2 (hd d h1) (hw.no h2 oj) hj
    rcases eff_read k5.2 h4 with rfl | ⟨d', ob', g1, g2, rfl⟩
    · exact ⟨_, h4, hi⟩
    · refine ⟨_, h4, ?_⟩
      have q : Nm.loc d ≠ Nm.loc d' := fun e => hd d h1 (by injection e with e; rw [e]; exact g1)
      have := eff_up (b := ob') hw.o g2 (fun e => hd d' e g1) (hw.no g2 oi) hi
      rw [upd_comm _ _ _ q] at this
      exact this

theorem swap {ops : Array Oper} {oi oj : Oper} {st st1 st2 : St} (hw : WF st.fr st.sg) (hk : kOk (kind mu oi.op) (kind mu oj.op) = true) (hap : oi.apart ops oj = true)
    (hi : aStep P mu ops oi st st1) (hj : aStep P mu ops oj st1 st2) : ∃ st1', aStep P mu ops oj st st1' ∧ aStep P mu ops oi st1' st2 := by
  obtain ⟨h1, h2, h3⟩ := Oper.apart_spec hap
  have ni : ¬ isApp mu oi := fun e => by unfold isApp at e; rw [e] at hk; simp [kOk] at hk
  have nj : ¬ isApp mu oj := fun e => by unfold isApp at e; rw [e] at hk; cases hq : kind mu oi.op <;> rw [hq] at hk <;> simp [kOk] at hk
  obtain ⟨vi, S1, ri, rfl⟩ := (aStep_res ni).1 hi
  obtain ⟨vj, S2, rj, rfl⟩ := (aStep_res nj).1 hj
  rw [aRes_put h1] at rj
  have key : ∃ S1', aRes P mu ops oj st.fr st.sg vj S1' ∧ aRes P mu ops oi st.fr S1' vi S2 := by
    rcases ri with ⟨gi, ei⟩ | ⟨gi, rfl, rfl⟩
    · rcases rj with ⟨gj, ej⟩ | ⟨gj, rfl, rfl⟩
      · obtain ⟨S1', a, b⟩ := swap_eff hw hk h2 ei ej
        exact ⟨S1', .inl ⟨gj, a⟩, .inl ⟨gi, b⟩⟩
      · exact ⟨_, .inr ⟨gj, rfl, rfl⟩, .inl ⟨gi, ei⟩⟩
    · exact ⟨_, rj, .inr ⟨gi, rfl, rfl⟩⟩
  obtain ⟨S1', a, b⟩ := key
  refine ⟨⟨putF st.fr oj.dst vj, S1'⟩, (aStep_res nj).2 ⟨vj, S1', a, rfl⟩, (aStep_res ni).2 ⟨vi, S2, (aRes_put h3).2 b, ?_⟩⟩
  simp only [St.mk.injEq, and_true]
  exact putF_comm h2
end
end Go.Abs

/-
  A region, drawn or not.
-/
namespace Go.Abs
open Go

inductive Wt (ops : Array Oper) : Nat → Nat → Prop
  | dir {j : Nat} {o : Oper} {e : Edge} (ho : ops[j]? = some o) (he : e ∈ o.after) (hb : Region.binds .any e = true) : Wt ops j e.on
  | tr {j i : Nat} {o : Oper} {e : Edge} (ho : ops[j]? = some o) (he : e ∈ o.after) (hb : Region.binds .any e = true) (h : Wt ops e.on i) : Wt ops j i

def maskOf (acc : List Nat) (o : Oper) : Nat := o.after.toList.foldl (fun m e => if Region.binds .any e then m ||| 2 ^ e.on ||| acc.getD e.on 0 else m) 0
def masks (acc : List Nat) : List Oper → List Nat
  | [] => acc
  | o :: rest => masks (acc ++ [maskOf acc o]) rest

section
variable {ops : Array Oper}

theorem mask_fold (acc : List Nat) (i : Nat) : ∀ (es : List Edge) (m : Nat), (es.foldl (fun m e => if Region.binds .any e then m ||| 2 ^ e.on ||| acc.getD e.on 0 else m) m).testBit i = true →
    m.testBit i = true ∨ ∃ e ∈ es, Region.binds .any e = true ∧ (e.on = i ∨ (acc.getD e.on 0).testBit i = true)
  | [], m, h => .inl h
  | e :: es, m, h => by
    rw [List.foldl_cons] at h
    rcases mask_fold acc i es _ h with h | ⟨e', he, hb, h⟩
    · split at h
      · rename_i hb
        simp only [Nat.testBit_or, Bool.or_eq_true] at h
        rcases h with (h | h) | h
        · exact .inl h
        · rw [Nat.testBit_two_pow] at h
          exact .inr ⟨e, by simp, hb, .inl (by simpa using h)⟩
        · exact .inr ⟨e, by simp, hb, .inr h⟩
      · exact .inl h
    · exact .inr ⟨e', by simp [he], hb, h⟩

theorem masks_spec : ∀ (rest : List Oper) (acc : List Nat), (∀ j, rest[j]? = ops[acc.length + j]?) → (∀ j i, (acc.getD j 0).testBit i = true → Wt ops j i) → ∀ j i, ((masks acc rest).getD j 0).testBit i = true → Wt ops j i
  | [], acc, _, h, j, i, hj => h j i hj
  | o :: rest, acc, hl, h, j, i, hj => by
    refine masks_spec rest (acc ++ [maskOf acc o]) (fun q => ?_) (fun j i hj => ?_) j i hj
    · have := hl (q + 1)
      simp only [List.getElem?_cons_succ] at this
      rw [this, List.length_append]; simp [Nat.add_assoc, Nat.add_comm 1 q]
    · rw [List.getD_eq_getElem?_getD, List.getElem?_append] at hj
      split at hj
      · exact h j i (by rw [List.getD_eq_getElem?_getD]; exact hj)
      · rename_i hge
        by_cases e : j = acc.length
        · subst e
          simp only [Nat.sub_self, List.getElem?_cons_zero, Option.getD_some] at hj
          have ho : ops[acc.length]? = some o := by have := hl 0; simpa using this.symm
          rcases mask_fold acc i _ _ hj with q | ⟨e, he, hb, q | q⟩
          · simp at q
          · subst q; exact .dir ho (by simpa using he) hb
          · exact .tr ho (by simpa using he) hb (h _ _ q)
        · rw [List.getElem?_eq_none (by simp; omega)] at hj
          simp at hj

def DC (ops : Array Oper) (listed : Array Bool) : Prop :=
  listed.size = ops.size ∧ ∀ k o, ops[k]? = some o → listed.getD k true = true → ∀ e ∈ o.after, Region.binds .any e = true → listed.getD e.on false = true

theorem getD_true {l : Array Bool} {k : Nat} (h : l.getD k false = true) (b : Bool) : l.getD k b = true := by
  rcases Nat.lt_or_ge k l.size with q | q
  · simp [Array.getD_eq_getD_getElem?, q] at h ⊢; exact h
  · simp [Array.getD_eq_getD_getElem?, Array.getElem?_eq_none q] at h

theorem Wt.listed {listed : Array Bool} (hdc : DC ops listed) {j i : Nat} (h : Wt ops j i) : ∀ o, ops[j]? = some o → (∀ e ∈ o.after, Region.binds .any e = true → listed.getD e.on false = true) → listed.getD i false = true := by
  induction h with
  | dir ho he hb =>
    intro o h1 h2
    rw [ho] at h1
    obtain rfl := Option.some.inj h1
    exact h2 _ he hb
  | tr ho he hb h ih =>
    intro o h1 h2
    rw [ho] at h1
    obtain rfl := Option.some.inj h1
    have h3 := h2 _ he hb
    rename_i j i o' e
    have hlt : e.on < ops.size := by
      rw [← hdc.1]
      rcases Nat.lt_or_ge e.on listed.size with q | q
      · exact q
      · simp [Array.getD_eq_getD_getElem?, Array.getElem?_eq_none q] at h3
    exact ih _ (Array.getElem?_eq_getElem hlt) (hdc.2 _ _ (Array.getElem?_eq_getElem hlt) (getD_true h3 true))

theorem DC.set {listed : Array Bool} (h : DC ops listed) {i : Nat} (hi : i ∈ Region.ready .any ops listed) : DC ops (listed.setIfInBounds i true) := by
  obtain ⟨h1, o, h2, h3⟩ := mem_ready.1 hi
  refine ⟨by simpa using h.1, fun k o' ho hk e he hb => ?_⟩
  have mono : ∀ q, listed.getD q false = true → (listed.setIfInBounds i true).getD q false = true := by
    intro q hq
    by_cases e : i = q
    · subst e
      rcases Nat.lt_or_ge i listed.size with g | g
      · simp [Array.getD_eq_getD_getElem?, g]
      · simp [Array.getD_eq_getD_getElem?, Array.getElem?_eq_none g] at hq
    · rw [Array.getD_eq_getD_getElem?, Array.getElem?_setIfInBounds_ne e, ← Array.getD_eq_getD_getElem?]; exact hq
  by_cases e2 : i = k
  · subst e2
    rw [h2] at ho
    obtain rfl := Option.some.inj ho
    exact mono _ (h3 e he hb)
  · rw [Array.getD_eq_getD_getElem?, Array.getElem?_setIfInBounds_ne e2, ← Array.getD_eq_getD_getElem?] at hk
    exact mono _ (h.2 k o' ho hk e he hb)

variable {P : Program} {mu : FuncId → Bool}

def aAny (P : Program) (mu : FuncId → Bool) (ops : Array Oper) (Q : St → Prop) : Nat → Array Bool → St → Prop
  | 0, listed, st => Region.ready .any ops listed = [] ∧ Q st
  | fuel + 1, listed, st => (Region.ready .any ops listed = [] → Q st) ∧ ∀ i ∈ Region.ready .any ops listed, ∀ o, ops[i]? = some o → ∃ st', aStep P mu ops o st st' ∧ aAny P mu ops Q fuel (listed.setIfInBounds i true) st'

theorem aAny_first {Q : St → Prop} {i : Nat} {oi : Oper} (hi : ops[i]? = some oi) : ∀ (fuel : Nat) (listed : Array Bool) (st st1 : St), WF st.fr st.sg → DC ops listed →
    (∀ j oj, ops[j]? = some oj → j ≠ i → listed.getD j true = false → Wt ops j i ∨ (oi.apart ops oj = true ∧ kOk (kind mu oi.op) (kind mu oj.op) = true)) →
    i ∈ Region.ready .any ops listed → aStep P mu ops oi st st1 → aAny P mu ops Q fuel (listed.setIfInBounds i true) st1 → aAny P mu ops Q (fuel + 1) listed st := by
  intro fuel
  induction fuel with
  | zero =>
    intro listed st st1 hw hdc hfree hr hs H
    refine ⟨fun h => (by rw [h] at hr; cases hr), fun j hj oj hoj => ?_⟩
    by_cases hji : j = i
    · subst hji
      rw [hi] at hoj
      obtain rfl := Option.some.inj hoj
      exact ⟨st1, hs, H⟩
    · have := ready_mono hj hji
      rw [H.1] at this
      cases this
  | succ fuel ih =>
    intro listed st st1 hw hdc hfree hr hs H
    refine ⟨fun h => (by rw [h] at hr; cases hr), fun j hj oj hoj => ?_⟩
    by_cases hji : j = i
    · subst hji
      rw [hi] at hoj
      obtain rfl := Option.some.inj hoj
      exact ⟨st1, hs, H⟩
    · obtain ⟨st1j, hsj, Hj⟩ := H.2 j (ready_mono hj hji) oj hoj
      obtain ⟨hjun, oj', hoj', hall⟩ := mem_ready.1 hj
      rw [hoj] at hoj'
      obtain rfl := Option.some.inj hoj'
      have hnw : ¬ Wt ops j i := fun hq => by
        have h1 := hq.listed hdc oj hoj hall
        have h0 := (mem_ready.1 hr).1
        rw [getD_true h1 true] at h0; cases h0
      obtain ⟨hap, hkk⟩ := (hfree j oj hoj hji hjun).resolve_left hnw
      obtain ⟨stj, h1, h2⟩ := swap hw hkk hap hs hsj
      have nj : ¬ isApp mu oj := fun e => by unfold isApp at e; rw [e] at hkk; cases hq : kind mu oi.op <;> rw [hq] at hkk <;> simp [kOk] at hkk
      refine ⟨stj, h1, ih (listed.setIfInBounds j true) stj st1j (aStep_WF nj h1 hw) (hdc.set hj) (fun k ok hk hki hun => ?_) (ready_mono hr (Ne.symm hji)) h2 ?_⟩
      · refine hfree k ok hk hki ?_
        by_cases hjk : j = k
        · subst hjk; exact hjun
        · rw [getD_set_ne true hjk] at hun; exact hun
      · rw [Array.setIfInBounds_comm _ _ hji]
        exact Hj

def aOps (P : Program) (mu : FuncId → Bool) (ops : Array Oper) : List Oper → (St → Prop) → St → Prop
  | [], Q, st => Q st
  | o :: rest, Q, st => ∃ st', aStep P mu ops o st st' ∧ aOps P mu ops rest Q st'

def appAt (mu : FuncId → Bool) (ops : Array Oper) : Nat := ops.toList.findIdx fun o => decide (kind mu o.op = .app)

def lexOK (mu : FuncId → Bool) (ops : Array Oper) : Bool :=
  let ms := masks [] ops.toList
  let p := appAt mu ops
  (List.range ops.size).all fun i => match ops[i]? with
    | none => true
    | some oi => (decide (p ≤ i) || (kind mu oi.op != .app)) && (oi.after.toList.all fun e => !Region.binds .any e || decide (e.on < i)) &&
      (List.range ops.size).all fun j => decide (j ≤ i) || (ms.getD j 0).testBit i || (decide (i < p) && match ops[j]? with | none => true | some oj => oi.apart ops oj && kOk (kind mu oi.op) (kind mu oj.op))

theorem aAny_lin {Q : St → Prop} {i : Nat} {oi : Oper} (hi : ops[i]? = some oi) (fuel : Nat) (listed : Array Bool) (st st1 : St) (hdc : DC ops listed)
    (hfree : ∀ j oj, ops[j]? = some oj → j ≠ i → listed.getD j true = false → Wt ops j i) (hr : i ∈ Region.ready .any ops listed) (hs : aStep P mu ops oi st st1) (H : aAny P mu ops Q fuel (listed.setIfInBounds i true) st1) : aAny P mu ops Q (fuel + 1) listed st := by
  refine ⟨fun h => (by rw [h] at hr; cases hr), fun j hj oj hoj => ?_⟩
  by_cases hji : j = i
  · subst hji
    rw [hi] at hoj
    obtain rfl := Option.some.inj hoj
    exact ⟨st1, hs, H⟩
  · obtain ⟨hjun, oj', hoj', hall⟩ := mem_ready.1 hj
    rw [hoj] at hoj'
    obtain rfl := Option.some.inj hoj'
    have h1 := (hfree j oj hoj hji hjun).listed hdc oj hoj hall
    have h0 := (mem_ready.1 hr).1
    rw [getD_true h1 true] at h0; cases h0

theorem aAny_lex {Q : St → Prop} (hB : lexOK mu ops = true) : ∀ (l : List Oper) (k : Nat) (listed : Array Bool) (st : St), (∀ j, l[j]? = ops[k + j]?) → k + l.length = ops.size → (k < appAt mu ops → WF st.fr st.sg) → DC ops listed →
    (∀ j, listed.getD j true = false ↔ k ≤ j ∧ j < ops.size) → (∀ j, listed.getD j false = true ↔ j < k) → aOps P mu ops l Q st → aAny P mu ops Q l.length listed st
  | [], k, listed, st, hl, hlen, hw, hdc, h1, h2, h => by
    refine ⟨?_, h⟩
    cases hq : Region.ready .any ops listed with
    | nil => rfl
    | cons x xs =>
      have := (mem_ready.1 (show x ∈ Region.ready .any ops listed by rw [hq]; simp)).1
      have := (h1 x).1 this
      simp at hlen
      omega
  | o :: l, k, listed, st, hl, hlen, hw, hdc, h1, h2, ⟨st', hs, h⟩ => by
    have h0 : ops[k]? = some o := by simpa using (hl 0).symm
    simp only [List.length_cons] at hlen
    have hk : k < ops.size := by omega
    have hB0 := hB
    unfold lexOK at hB
    simp only [List.all_eq_true, List.mem_range] at hB
    have hBk := hB k hk
    rw [h0] at hBk
    simp only [Bool.and_eq_true, bne_iff_ne, ne_eq, List.all_eq_true, List.mem_range, Bool.or_eq_true, Bool.not_eq_true', decide_eq_true_eq] at hBk
    obtain ⟨⟨hna, hed⟩, hfr⟩ := hBk
    have hr : k ∈ Region.ready .any ops listed := mem_ready.2 ⟨(h1 k).2 ⟨Nat.le_refl _, hk⟩, o, h0, fun e he hb => (h2 _).2 (by
      rcases hed e (by simpa using he) with q | q
      · rw [hb] at q; cases q
      · exact q)⟩
    have g1 : ∀ j, (listed.setIfInBounds k true).getD j true = false ↔ k + 1 ≤ j ∧ j < ops.size := fun j => by
      have hsz := hdc.1
      by_cases e : k = j
      · subst e
        simp [Array.getD_eq_getD_getElem?, show k < listed.size by omega]
        omega
      · rw [getD_set_ne true e, h1 j]; omega
    have g2 : ∀ j, (listed.setIfInBounds k true).getD j false = true ↔ j < k + 1 := fun j => by
      have hsz := hdc.1
      by_cases e : k = j
      · subst e
        simp [Array.getD_eq_getD_getElem?, show k < listed.size by omega]
      · rw [getD_set_ne false e, h2 j]; omega
    rcases Nat.lt_or_ge k (appAt mu ops) with hp | hp
    · have hna := hna.resolve_left (by omega)
      refine aAny_first h0 l.length listed st st' (hw hp) hdc (fun j oj hoj hjk hun => ?_) hr hs
        (aAny_lex hB0 l (k + 1) _ st' (fun j => by have := hl (j + 1); simpa [Nat.add_assoc, Nat.add_comm 1 j] using this) (by omega) (fun _ => aStep_WF hna hs (hw hp)) (hdc.set hr) g1 g2 h)
      have hj := (h1 j).1 hun
      rcases hfr j hj.2 with (q | q) | q
      · omega
      · exact .inl (masks_spec ops.toList [] (by simp) (fun j i hq => by simp at hq) j k q)
      · rw [hoj] at q
        simp only [Bool.and_eq_true] at q
        exact .inr q.2
    · refine aAny_lin h0 l.length listed st st' hdc (fun j oj hoj hjk hun => ?_) hr hs
        (aAny_lex hB0 l (k + 1) _ st' (fun j => by have := hl (j + 1); simpa [Nat.add_assoc, Nat.add_comm 1 j] using this) (by omega) (fun q => by omega) (hdc.set hr) g1 g2 h)
      have hj := (h1 j).1 hun
      rcases hfr j hj.2 with (q | q) | q
      · omega
      · exact masks_spec ops.toList [] (by simp) (fun j i hq => by simp at hq) j k q
      · omega
end
end Go.Abs

/-
  Code over abstract states; a function's contract out of its body.
-/
namespace Go.Abs
open Go

structure Base where
  w0 : World
  ρ0 : Nm → Nat
  S0 : Store

structure Inv (B : Base) (w : World) (ρ : Nm → Nat) (st : St) (tm : Array Value) : Prop where
  sim : Sim w ρ st tm
  ext : Ext (fun _ => False) B.w0 B.ρ0 B.S0 w ρ st.sg
  outs : ∀ m o, B.S0 m = some o → m.isOut = true

section
variable {P : Program} {mu : FuncId → Bool} {w w' : World} {ρ : Nm → Nat} {st st' : St} {a : Act} {B : Base}

theorem ext_heap {S : Store} (h : w'.heap = w.heap) (h1 : w'.os = w.os) (h2 : w'.tape = w.tape) (h3 : w'.output = w.output) : Ext (fun _ => False) w ρ S w' ρ S :=
  ⟨h1, h2, h3, by rw [h]; exact Nat.le_refl _, fun _ _ _ => by rw [h], fun _ o h hr => .inl ⟨o, h, hr, rfl⟩, fun _ o h hr => ⟨o, h, hr, rfl⟩, fun _ _ _ _ _ _ _ hq => by
    obtain ⟨vs, a, b⟩ := hq; exact ⟨vs, by rw [h]; exact a, b⟩, fun _ _ _ _ _ h => ⟨h, fun _ => rfl⟩, fun _ h => h.elim⟩

theorem Sim.heap {tm : Array Value} (hs : Sim w ρ st tm) (h : w'.heap = w.heap) (h1 : w'.os = w.os) (h2 : w'.tape = w.tape) (h3 : w'.output = w.output) : Sim w' ρ st tm where
  inj := hs.inj
  obj m o hm := (hs.obj m o hm).ext (ext_heap (S := st.sg) (ρ := ρ) h h1 h2 h3) (fun x hx => by rw [h]; exact hx)
  fr t := (hs.fr t).ext (ext_heap (S := st.sg) (ρ := ρ) h h1 h2 h3) (fun _ h => h.elim)
  gl := hs.gl.ext (ext_heap h h1 h2 h3)

theorem Inv.heap {tm : Array Value} (hs : Inv B w ρ st tm) (h : w'.heap = w.heap) (h1 : w'.os = w.os) (h2 : w'.tape = w.tape) (h3 : w'.output = w.output) : Inv B w' ρ st tm :=
  ⟨hs.sim.heap h h1 h2 h3, hs.ext.trans (ext_heap h h1 h2 h3) (fun _ _ _ h => h), hs.outs⟩

theorem Inv.step {w1 : World} {ρ1 : Nm → Nat} {X : Nm → Prop} {tm tm' : Array Value} (h : Inv B w ρ st tm) (hs : Sim w1 ρ1 st' tm') (he : Ext X w ρ st.sg w1 ρ1 st'.sg) (hX : ∀ m, X m → m.isOut = false) : Inv B w1 ρ1 st' tm' :=
  ⟨hs, h.ext.trans he (fun m o hm hx => by have := h.outs m o hm; rw [hX m hx] at this; cases this), h.outs⟩

/-! ### What is held mentions only what is there -/
theorem CellS.cl {x : Cell} {u : Value} {S : Store} (h : CellS w ρ S x u) : x.cl S := by
  intro m hm
  cases x <;> first
    | exact hm.elim
    | (obtain ⟨⟨o, ho, -⟩, -⟩ := h; rw [← show _ = m from hm, ho]; simp)

theorem CellsS.cl {cs : List Cell} {vs : List Value} {S : Store} (h : CellsS w ρ S cs vs) : ∀ x ∈ cs, x.cl S := fun x hx => by
  obtain ⟨i, hi, rfl⟩ := List.getElem_of_mem hx
  obtain ⟨u, -, -, h3⟩ := h.2 i _ (List.getElem?_eq_getElem hi)
  exact h3.cl

theorem VS1.cl {x : AVal} {u : Value} {S : Store} (h : VS1 w ρ S x u) : ∀ m, x.at1 m → S m ≠ none := by
  intro m hm
  cases x with
  | c y => exact CellS.cl h m hm
  | agg cs => obtain ⟨vs, -, h1⟩ := h; obtain ⟨c, hc, hq⟩ := hm; exact h1.cl c hc m hq
  | fn f cs => obtain ⟨vs, -, h1⟩ := h; obtain ⟨c, hc, hq⟩ := hm; exact h1.cl c hc m hq
  | accv n k => exact h.elim
  | accp n k => exact h.elim
  | tup xs => exact h.elim

theorem VS.cl {x : AVal} {u : Value} {S : Store} (h : VS w ρ S x u) : x.cl S := by
  intro m hm
  cases x with
  | c y => exact VS1.cl (x := .c y) h m hm
  | agg cs => exact VS1.cl (x := .agg cs) h m hm
  | fn f cs => exact VS1.cl (x := .fn f cs) h m hm
  | accv n k => obtain ⟨ty, k, L, ho, -⟩ := h; rw [← show n = m from hm, ho]; simp
  | accp n k => obtain ⟨ty, k, L, ho, -⟩ := h; rw [← show n = m from hm, ho]; simp
  | tup xs =>
    obtain ⟨vs, -, hl, h1⟩ := h
    obtain ⟨x, hx, hq⟩ := hm
    obtain ⟨i, hi, rfl⟩ := List.getElem_of_mem hx
    obtain ⟨u, -, h3⟩ := h1 i _ (List.getElem?_eq_getElem hi)
    exact h3.cl m hq

theorem EnvS.cl {S : Store} (h : EnvS w ρ S) : ∀ n b, S n = some b → b.cl S := by
  intro n b hb
  have ho := h.obj n b hb
  cases b with
  | cells ty cs =>
    obtain ⟨vs, -, -, h1⟩ := ho
    intro x hx
    obtain ⟨i, hi, rfl⟩ := List.getElem_of_mem hx
    obtain ⟨u, -, -, h3⟩ := h1 i _ (List.getElem?_eq_getElem hi)
    exact h3.cl
  | ints ty k L => trivial
  | fix x => trivial
  | row ty cs =>
    obtain ⟨vs, -, h1⟩ := ho
    intro x hx
    obtain ⟨i, hi, rfl⟩ := List.getElem_of_mem hx
    obtain ⟨u, -, -, h3⟩ := h1 i _ (List.getElem?_eq_getElem hi)
    exact h3.cl
  | acc ty k L =>
    intro c hc x hx
    rcases ho with rfl | ⟨vs, -, -, h1⟩
    · cases hc
    · obtain ⟨i, hi, rfl⟩ := List.getElem_of_mem hc
      obtain ⟨j, hj, rfl⟩ := List.getElem_of_mem hx
      obtain ⟨u, -, -, h3⟩ := h1 i _ j _ (List.getElem?_eq_getElem hi) (List.getElem?_eq_getElem hj)
      exact h3.cl

theorem Sim.wf {tm : Array Value} (h : Sim w ρ st tm) : WF st.fr st.sg := ⟨fun t m hm => (h.fr t).cl m hm, h.env.cl⟩

/-! ### Regions -/
theorem yA_yields {ops : Array Oper} (h : Sim w ρ st a.tmps) {j : Nat} {y : Option Bool} (hy : yA ops st.fr j = some y) : yielded ops a.tmps j = y := by
  unfold yA at hy
  unfold yielded
  cases e : (ops[j]?).bind (·.dst) with
  | none => rw [e] at hy; simp only [Option.some.injEq] at hy; subst hy; rfl
  | some t =>
    rw [e] at hy
    simp only at hy
    have hv := h.fr t
    simp only [Option.bind_some]
    rcases Nat.lt_or_ge t a.tmps.size with q | q
    · have e2 : a.tmps[t]? = some (a.tmps.getD t undef) := by simp [Array.getD_eq_getD_getElem?, q]
      rw [e2]
      split at hy
      · rename_i b eb
        rw [eb] at hv
        have hv := vs_sc hv
        rw [hv]
        simpa using hy
      · rename_i vs eb
        rw [eb] at hv
        have hv := vs_sc hv
        rw [hv]
        simpa using hy
      · cases hy
    · rw [Array.getElem?_eq_none q]
      have e2 : a.tmps.getD t undef = undef := by simp [Array.getD_eq_getD_getElem?, Array.getElem?_eq_none q]
      rw [e2] at hv
      split at hy
      · rename_i b eb
        rw [eb] at hv
        have hv := vs_sc hv
        cases hv
      · simpa using hy
      · cases hy

theorem aStep_sound {ops : Array Oper} (h : Sim w ρ st a.tmps) {o : Oper} (hd : ∀ t, o.dst = some t → t < a.tmps.size) (he : aStep P mu ops o st st') {K : Act → World → Prop} {Q : Exit → Act → World → Prop}
    (hK : StepTo w ρ st st' a o.dst K) : if Region.wanted o (yielded ops a.tmps) then o.wp P a w K Q else K (a.put o.dst undef) w := by
  unfold aStep at he
  have skip : st' = ⟨putF st.fr o.dst undefA, st.sg⟩ → K (a.put o.dst undef) w := by
    rintro rfl
    exact hK _ _ _ _ (h.put h.env (Ext.refl _ _ _) st.fr (fun t => .inr ⟨rfl, fun _ h => h.elim⟩) hd (rfl : undef = undef)) (Ext.refl _ _ _) (fun _ h => h.elim)
  cases hg : o.guard with
  | none =>
    rw [hg] at he
    simp only [Region.wanted, hg, if_true]
    exact aExec_sound h hd he hK
  | some jw =>
    obtain ⟨j, want⟩ := jw
    rw [hg] at he
    simp only at he
    simp only [Region.wanted, hg]
    split at he
    · rename_i b hb
      rw [yA_yields h hb]
      by_cases e : b = want
      · subst e
        simp only [BEq.rfl, if_true]
        exact aExec_sound h hd (he.1 rfl) hK
      · have e2 : (some b == some want) = false := by simpa using e
        rw [e2]
        simp only [Bool.false_eq_true, if_false]
        exact skip (he.2 e)
    · rename_i hb
      rw [yA_yields h hb]
      have e2 : ((none : Option Bool) == some want) = false := rfl
      rw [e2]
      simp only [Bool.false_eq_true, if_false]
      exact skip he
    · exact he.elim

def Ends (B : Base) (N : Nat) (Q : Exit → St → Prop) : Exit → Act → World → Prop := fun e a w => a.defers = [] ∧ a.tmps.size = N ∧ ∃ st ρ, Inv B w ρ st a.tmps ∧ Q e st

theorem put_size (a : Act) (d : Option Nat) (u : Value) : (a.put d u).tmps.size = a.tmps.size := by cases d <;> simp [Act.put]
theorem put_defers (a : Act) (d : Option Nat) (u : Value) : (a.put d u).defers = a.defers := by cases d <;> rfl

theorem aOps_sound {ops : Array Oper} {N : Nat} {Q : Exit → St → Prop} : ∀ (l : List Oper) (st : St) (w : World) (ρ : Nm → Nat) (a : Act), (∀ o ∈ l, ∀ t, o.dst = some t → t < N) → a.defers = [] → a.tmps.size = N → Inv B w ρ st a.tmps →
    aOps P mu ops l (Q .normal) st → wpList P ops (Ends B N Q) l a w
  | [], st, w, ρ, a, _, hd, hn, hi, h => ⟨hd, hn, st, ρ, hi, h⟩
  | o :: l, st, w, ρ, a, hb, hd, hn, hi, ⟨st', hs, h⟩ => by
    refine wpList_step fun K hK => ?_
    refine aStep_sound hi.sim (fun t ht => by rw [hn]; exact hb o (by simp) t ht) hs (fun w' ρ' u X h1 h2 h3 => ?_)
    exact hK _ _ (aOps_sound l st' w' ρ' _ (fun o ho => hb o (by simp [ho])) (by rw [put_defers]; exact hd) (by rw [put_size]; exact hn) (hi.step h1 h2 h3) h)

theorem aAny_sound {ops : Array Oper} {N : Nat} {Q : Exit → St → Prop} (hb : ∀ o ∈ ops, ∀ t, o.dst = some t → t < N) : ∀ (fuel : Nat) (listed : Array Bool) (st : St) (w : World) (ρ : Nm → Nat) (a : Act), a.defers = [] → a.tmps.size = N → Inv B w ρ st a.tmps →
    aAny P mu ops (Q .normal) fuel listed st → wpAny P .any ops (Ends B N Q) fuel listed a w
  | 0, listed, st, w, ρ, a, hd, hn, hi, h => ⟨h.1, hd, hn, st, ρ, hi, h.2⟩
  | fuel + 1, listed, st, w, ρ, a, hd, hn, hi, h => by
    refine ⟨fun h0 => ⟨hd, hn, st, ρ, hi, h.1 h0⟩, fun i hr => ?_⟩
    unfold wpOp
    obtain ⟨-, o, ho, -⟩ := mem_ready.1 hr
    obtain ⟨st', hs, h'⟩ := h.2 i hr o ho
    rw [ho]
    simp only
    have := aStep_sound (K := wpAny P .any ops (Ends B N Q) fuel (listed.setIfInBounds i true)) (Q := Ends B N Q) hi.sim (fun t ht => by rw [hn]; exact hb o (Array.mem_of_getElem? ho) t ht) hs (fun w' ρ' u X h1 h2 h3 =>
      aAny_sound hb fuel _ st' w' ρ' _ (by rw [put_defers]; exact hd) (by rw [put_size]; exact hn) (hi.step h1 h2 h3) h')
    split
    · rename_i hw; rw [if_pos hw] at this; exact .inl this
    · rename_i hw; rw [if_neg hw] at this; exact this

/-! ### Code -/
def ne4 (_ : List Oper) : Bool := false

def okC (N : Nat) (mu : FuncId → Bool) : Code → Bool
  | .region _ ops draw => (ops.toList.all fun o => match o.dst with | some d => decide (d < N) | none => true) && (!draw || lexOK mu ops || !ne4 ops.toList)
  | .seq x y => okC N mu x && okC N mu y
  | .cond _ x y => okC N mu x && okC N mu y
  | .block _ c => okC N mu c
  | .loop c => okC N mu c
  | .scope c => okC N mu c
  | .label _ => true
  | .skip => true
  | .exit _ => true
  | .ret => true
  | _ => false

def awp (P : Program) (mu : FuncId → Bool) (N : Nat) (c : Code) (Q : Exit → St → Prop) (st : St) : Prop :=
  P.follows .mixedOrders = true → okC N mu c = true → ∀ (B : Base) (w : World) (ρ : Nm → Nat) (a : Act), a.defers = [] → a.tmps.size = N → Inv B w ρ st a.tmps → c.wp P (Ends B N Q) a w

variable {N : Nat} {Q : Exit → St → Prop}

theorem Inv.weak {F : St} {tm : Array Value} (h : Inv B w ρ st tm) (hw : Weak st F) : ∃ ρ', Inv B w ρ' F tm := by
  obtain ⟨ρ', h1, h2, h3⟩ := hw w ρ tm h.sim
  refine ⟨ρ', h1, ⟨h.ext.os, h.ext.tape, h.ext.output, h.ext.size, h.ext.old, fun m o' hm hr => ?_, fun m o hm ha => ?_, h.ext.szs, fun m ty k L hX hm => ?_, fun _ h => h.elim⟩, h.outs⟩
  · obtain ⟨m2, o2, e2, r2, q2, i2⟩ := h2 m o' hm hr
    rcases h.ext.nms m2 o2 e2 r2 with ⟨o, a1, a2, a3⟩ | a1
    · have := i2 (h.outs m2 o a1)
      subst this
      exact .inl ⟨o, a1, a2, q2.trans a3⟩
    · exact .inr (by rw [q2]; exact a1)
  · obtain ⟨o', a1, a2, a3⟩ := h.ext.kp m o hm ha
    obtain ⟨b1, b2⟩ := h3 m (h.outs m o hm)
    exact ⟨o', by rw [b1]; exact a1, a2, b2.trans a3⟩
  · obtain ⟨a1, a2⟩ := h.ext.acc m ty k L hX hm
    obtain ⟨b1, b2⟩ := h3 m (h.outs m _ hm)
    exact ⟨by rw [b1]; exact a1, fun hl => b2.trans (a2 hl)⟩
end
end Go.Abs
