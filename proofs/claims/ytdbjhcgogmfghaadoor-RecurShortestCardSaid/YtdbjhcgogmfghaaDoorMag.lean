/-
  An abstract machine for this program, and contracts of its functions: part Mag (no statement by itself).
-/
import Derived.Test.YtdbjhcgogmfghaaDoorMaf
set_option linter.unusedVariables false
set_option linter.unusedSimpArgs false
set_option linter.unnecessarySimpa false

/-
  What is handed in to be read may be tracked: it is lent.
-/
namespace Go.Abs
open Go

inductive RchC (A : Store) (x : Cell) : Nm → Prop
  | base {m : Nm} (hm : x.at m) : RchC A x m
  | step {m q : Nm} {o : AObj} {c : Cell} (h : RchC A x m) (ho : A m = some o) (hc : c ∈ o.cls) (hq : c.at q) : RchC A x q
theorem RchC.up {A : Store} {x c : Cell} {m : Nm} {o : AObj} (hm : RchC A x m) (ho : A m = some o) (hc : c ∈ o.cls) {q : Nm} (h : RchC A c q) : RchC A x q := by
  induction h with
  | base hq => exact .step hm ho hc hq
  | step _ ho' hc' hq ih => exact .step ih ho' hc' hq

theorem FrzC0.tr {A B A' B' : Store} {x y : Cell} (h : FrzC0 A B x y) : (∀ m, RchC A x m → A' m = A m ∧ (B m = none → B' m = none) ∧ (B m ≠ none → B' m ≠ none)) → FrzC0 A' B' x y := by
  induction h with
  | keep h => intro hh; exact .keep fun m hm => (hh m (.base hm)).2.2 (h m hm)
  | nilI => intro _; exact .nilI
  | nilQ => intro _; exact .nilQ
  | junk => intro _; exact .junk
  | le h h0 => intro _; exact .le h h0
  | win hm hb hl e => intro hh; obtain ⟨a, b, -⟩ := hh _ (.base rfl); exact .win (a.trans hm) (b hb) hl e
  | winc hm hb hl e => intro hh; obtain ⟨a, b, -⟩ := hh _ (.base rfl); exact .winc (a.trans hm) (b hb) hl e
  | ptr f hm hb h1 h2 ih =>
    intro hh
    rename_i m off ty cs ls
    have h0 : RchC A (.ptr m off) m := .base rfl
    obtain ⟨a, b, -⟩ := hh _ h0
    exact .ptr f (hm.imp a.trans a.trans) (b hb) h1 fun j l hj => ih j l hj fun q hq => hh q (hm.elim (fun hm => RchC.up h0 hm (List.mem_of_getElem? (h1 j l hj)) hq) (fun hm => RchC.up h0 hm (List.mem_of_getElem? (h1 j l hj)) hq))
  | row f hm hb hn hz h1 h2 ih =>
    intro hh
    rename_i m off len cm sz ty cs L
    have h0 : RchC A (.win m off len cm) m := .base rfl
    obtain ⟨a, b, -⟩ := hh _ h0
    exact .row f (hm.imp a.trans a.trans) (b hb) hn hz h1 fun i c j l hi hj => ih i c j l hi hj fun q hq => hh q (hm.elim (fun hm => RchC.up h0 hm (List.mem_of_getElem? (h1 i c j l hi hj)) hq) (fun hm => RchC.up h0 hm (List.mem_of_getElem? (h1 i c j l hi hj)) hq))
  | rowc f hm hb hn hc hz h1 h2 ih =>
    intro hh
    rename_i m off len cm sz ty cs L
    have h0 : RchC A (.win m off len cm) m := .base rfl
    obtain ⟨a, b, -⟩ := hh _ h0
    exact .rowc f (hm.imp a.trans a.trans) (b hb) hn hc hz h1 fun i c j l hi hj => ih i c j l hi hj fun q hq => hh q (hm.elim (fun hm => RchC.up h0 hm (List.mem_of_getElem? (h1 i c j l hi hj)) hq) (fun hm => RchC.up h0 hm (List.mem_of_getElem? (h1 i c j l hi hj)) hq))

inductive LendV (A B : Store) : AVal → AVal → Prop
  | c {x y : Cell} (h : FrzC0 A B x y) : LendV A B (.c x) (.c y)
  | agg {xs ys : List Cell} (hl : xs.length = ys.length) (h : ∀ (i : Nat) (x y : Cell), xs[i]? = some x → ys[i]? = some y → FrzC0 A B x y) : LendV A B (.agg xs) (.agg ys)
  | fn {f : FuncId} {xs ys : List Cell} (hl : xs.length = ys.length) (h : ∀ (i : Nat) (x y : Cell), xs[i]? = some x → ys[i]? = some y → FrzC0 A B x y) : LendV A B (.fn f xs) (.fn f ys)
def LendVs (A B : Store) : List AVal → List AVal → Prop
  | [], [] => True
  | x :: xs, y :: ys => LendV A B x y ∧ LendVs A B xs ys
  | _, _ => False

def lendS (w : World) (ρ : Nm → Nat) (S : Store) (pre : SL) (X : List Nm) : Store := fun m =>
  if m ∈ X then none else if m ∈ pre.map Prod.fst then S m else match S m with
    | some o => if o.real then some (.fix ((w.heap[ρ m]?).getD (.cells #[] 0 (0, 0)))) else some o
    | none => none

def Cell.noInt : Cell → Bool
  | .sc (.int _ _) => false
  | .junk => false
  | _ => true
def Cell.safe (b : Bool) : Cell → Bool
  | .sc _ => true
  | .fx _ => true
  | .ints _ _ => b
  | .intc _ _ _ => b
  | .win .. => true
  | .ptr .. => true
  | .junk => true
  | _ => false
def AVal.safe1 (b : Bool) : AVal → Bool
  | .c x => x.safe b
  | .agg cs => cs.all (Cell.safe b)
  | .fn _ cs => cs.all (Cell.safe b)
  | .accv _ _ => true
  | .accp _ _ => true
  | .tup _ => false
def AVal.safe (b : Bool) : AVal → Bool
  | .tup xs => xs.all (AVal.safe1 b)
  | x => x.safe1 b

section
variable {P : Program} {w w' : World} {ρ ρ' : Nm → Nat} {S : Store} {pre : SL} {X : List Nm}

theorem lendS_dom {m : Nm} (hm : m ∉ X) : lendS w ρ S pre X m = none ↔ S m = none := by
  unfold lendS
  rw [if_neg hm]
  split
  · exact Iff.rfl
  · cases e : S m with
    | none => simp
    | some o => simp only; split <;> simp
theorem lendS_real {m : Nm} {o : AObj} (h : lendS w ρ S pre X m = some o) (hr : o.real = true) : ∃ o', S m = some o' ∧ o'.real = true ∧ m ∉ X := by
  unfold lendS at h
  split at h
  · cases h
  · rename_i hx
    split at h
    · exact ⟨o, h, hr, hx⟩
    · cases e : S m with
      | none => rw [e] at h; cases h
      | some o' =>
        rw [e] at h
        simp only at h
        split at h
        · rename_i q; exact ⟨o', rfl, q, hx⟩
        · obtain rfl := Option.some.inj h; exact ⟨_, rfl, hr, hx⟩
theorem lendS_kp {m : Nm} {o : AObj} (h : S m = some o) (hx : m ∉ X) : ∃ o', lendS w ρ S pre X m = some o' ∧ o'.real = o.real ∧ (o.isAcc = false → o'.isAcc = false) := by
  unfold lendS
  rw [if_neg hx]
  split
  · exact ⟨o, h, rfl, fun h => h⟩
  · rw [h]
    simp only
    split
    · rename_i q; exact ⟨_, rfl, by rw [q]; rfl, fun _ => rfl⟩
    · exact ⟨o, rfl, rfl, fun h => h⟩

theorem lend_seen (he : EnvS w ρ S) : Seen w ρ S (lendS w ρ S pre X) where
  fr {b} hb := ⟨hb.1, fun m o hm hr => by obtain ⟨o', h1, h2, -⟩ := lendS_real hm hr; exact hb.2 m o' h1 h2⟩
  gone {m o} hm hr hb := ⟨he.lt hm hr, fun m' o' hm' hr' e => by
    obtain ⟨o1, h1, h2, -⟩ := lendS_real hm' hr'
    have := he.inj m' m o1 o h1 hm h2 hr e
    subst this
    rw [hb] at hm'; cases hm'⟩
  kp {m o} hm ha hb := by
    have hx : m ∉ X := fun h => hb (by unfold lendS; rw [if_pos h])
    obtain ⟨o', h1, -, h3⟩ := lendS_kp (w := w) (ρ := ρ) (pre := pre) hm hx
    exact ⟨o', h1, h3 ha⟩

theorem lend_env (he : EnvS w ρ S) (hpre : ∀ m ∈ pre.map Prod.fst, ∀ o, S m = some o → ∀ x ∈ o.cls, ∀ q, x.at q → q ∉ X) : EnvS w ρ (lendS w ρ S pre X) where
  inj m m' o o' h1 h2 r1 r2 e := by
    obtain ⟨a, a1, a2, -⟩ := lendS_real h1 r1
    obtain ⟨b, b1, b2, -⟩ := lendS_real h2 r2
    exact he.inj m m' a b a1 b1 a2 b2 e
  obj m o hm := by
    have hs := lend_seen (pre := pre) (X := X) he
    have h0 := hm
    unfold lendS at h0
    split at h0
    · cases h0
    · rename_i hx
      split at h0
      · rename_i hz
        have ho := he.obj m o h0
        have keep : ∀ x ∈ o.cls, ∀ {u : Value}, CellS w ρ S x u → CellS w ρ (lendS w ρ S pre X) x u := fun x hxm u hu =>
          FrzC0.heldS hs he (.keep fun q hq => fun e => by
            have hq1 := hpre m hz o h0 x hxm q hq
            have := (lendS_dom (w := w) (ρ := ρ) (S := S) (pre := pre) hq1).1 e
            exact AObj.cl_cls.1 (he.cl m o h0) x hxm q hq this) hu
        cases o with
        | ints ty k L => exact ho
        | fix x => exact ho
        | row ty cs =>
          obtain ⟨vs, q1, q2⟩ := ho
          refine ⟨vs, q1, fun i x hi => ?_⟩
          obtain ⟨u, p1, p2, p3⟩ := q2 i x hi
          exact ⟨u, p1, p2, keep x (List.mem_of_getElem? hi) p3⟩
        | cells ty cs =>
          obtain ⟨vs, q1, q0, q2⟩ := ho
          refine ⟨vs, q1, q0, fun i x hi => ?_⟩
          obtain ⟨u, p1, p2, p3⟩ := q2 i x hi
          exact ⟨u, p1, p2, keep x (List.mem_of_getElem? hi) p3⟩
        | acc ty sz L =>
          rcases ho with ho | ⟨vs, q1, q0, q2⟩
          · exact .inl ho
          · refine .inr ⟨vs, q1, q0, fun i c j x hi hj => ?_⟩
            obtain ⟨u, p1, p2, p3⟩ := q2 i c j x hi hj
            exact ⟨u, p1, p2, keep x (List.mem_flatten.2 ⟨c, List.mem_of_getElem? hi, List.mem_of_getElem? hj⟩) p3⟩
      · cases e : S m with
        | none => rw [e] at h0; cases h0
        | some o' =>
          rw [e] at h0
          simp only at h0
          split at h0
          · rename_i hr
            obtain rfl := Option.some.inj h0
            have hlt := he.lt e hr
            show w.heap[ρ m]? = some _
            rw [Array.getElem?_eq_getElem hlt]; rfl
          · rename_i hr
            obtain rfl := Option.some.inj h0
            cases o' with
            | acc ty sz L => cases L with | nil => exact .inl rfl | cons a l => exact absurd rfl hr
            | ints ty k L => exact absurd rfl hr
            | cells ty cs => exact absurd rfl hr
            | fix x => exact absurd rfl hr
            | row ty cs => exact absurd rfl hr

theorem noInt_val {c : Cell} {u : Value} (h : c.noInt = true) (hc : CellS w ρ S c u) : ∀ k n, u ≠ .int k n := by
  intro k n e
  subst e
  cases c with
  | sc v => have : Value.int k n = v := hc; subst this; cases h
  | ints k L => obtain ⟨A, cap, q, _⟩ := hc; cases q
  | intc k L n => obtain ⟨A, cap, q, _⟩ := hc; cases q
  | seq sz L => obtain ⟨A, cap, q, _⟩ := hc; cases q
  | seqc sz L n => obtain ⟨A, cap, q, _⟩ := hc; cases q
  | win m off len cm => obtain ⟨_, A, cap, q, _⟩ := hc; cases q
  | ptr m off => obtain ⟨_, q⟩ := hc; cases q
  | pim cs => obtain ⟨b, off, q, _⟩ := hc; cases q
  | fx x => have := FXS.not_int hc; exact this.elim
  | junk => cases h
theorem up_cell {S0 S' : Store} {ρ2 : Nm → Nat} {b : Bool} (hFr : b = true → ∀ bb oo k n', w.cell? ⟨bb, oo, none⟩ = some (.int k n') → Fr w ρ S0 bb → Fr w ρ2 S' bb) {c : Cell} {u : Value} (hsafe : c.safe b = true)
    (nm : ∀ m, c.at m → S0 m = S' m ∧ ρ2 m = ρ m) (hcu : CellS w ρ S0 c u) : CellS w ρ2 S' c u := by
  have ints : ∀ {k : IntKind} {L : List Int} {q : Nat}, b = true → IntsS w (Fr w ρ S0) k L q u → IntsS w (Fr w ρ2 S') k L q u := by
    intro k L q hb hI
    obtain ⟨A, cap, rfl, g1, g2, g3⟩ := hI
    refine ⟨A, cap, rfl, g1, g2, fun hl => ?_⟩
    obtain ⟨bb, off, e1, e2, e3⟩ := g3 hl
    refine ⟨bb, off, e1, hFr hb bb (off + 0) k _ (e3 0 _ (List.getElem?_eq_getElem hl)) e2, e3⟩
  cases c with
  | sc v => exact hcu
  | fx x => exact hcu
  | ints k L => exact ints hsafe hcu
  | intc k L q => exact ints hsafe hcu
  | win m off len cm =>
    obtain ⟨h1, h2⟩ := nm m rfl
    obtain ⟨⟨o, ho, ha⟩, g⟩ := hcu
    refine ⟨⟨o, by rw [← h1]; exact ho, ha⟩, ?_⟩
    rw [h2]; exact g
  | ptr m off =>
    obtain ⟨h1, h2⟩ := nm m rfl
    obtain ⟨⟨o, ho, ha⟩, g⟩ := hcu
    exact ⟨⟨o, by rw [← h1]; exact ho, ha⟩, by rw [h2]; exact g⟩
  | junk => trivial
  | seq _ _ => cases hsafe
  | seqc _ _ _ => cases hsafe
  | pim _ => cases hsafe
theorem up_cells {S0 S' : Store} {ρ2 : Nm → Nat} {b : Bool} (hFr : b = true → ∀ bb oo k n', w.cell? ⟨bb, oo, none⟩ = some (.int k n') → Fr w ρ S0 bb → Fr w ρ2 S' bb) {cs : List Cell} {us : List Value} (hsafe : cs.all (Cell.safe b) = true)
    (nm : ∀ m, (∃ c ∈ cs, c.at m) → S0 m = S' m ∧ ρ2 m = ρ m) (hcu : CellsS w ρ S0 cs us) : CellsS w ρ2 S' cs us :=
  ⟨hcu.1, fun i x hi => by
    obtain ⟨u, p1, p2, p3⟩ := hcu.2 i x hi
    have hx := List.mem_of_getElem? hi
    exact ⟨u, p1, p2, up_cell hFr (List.all_eq_true.1 hsafe x hx) (fun m hm => nm m ⟨x, hx, hm⟩) p3⟩⟩
theorem up_val1 {S0 S' : Store} {ρ2 : Nm → Nat} {b : Bool} (hFr : b = true → ∀ bb oo k n', w.cell? ⟨bb, oo, none⟩ = some (.int k n') → Fr w ρ S0 bb → Fr w ρ2 S' bb) {x : AVal} {u : Value} (hsafe : x.safe1 b = true)
    (nm : ∀ m, x.at1 m → S0 m = S' m ∧ ρ2 m = ρ m) (hcu : VS1 w ρ S0 x u) : VS1 w ρ2 S' x u := by
  cases x with
  | c x => exact up_cell hFr hsafe nm hcu
  | agg cs => obtain ⟨us, rfl, h⟩ := hcu; exact ⟨us, rfl, up_cells hFr hsafe nm h⟩
  | fn f cs => obtain ⟨us, rfl, h⟩ := hcu; exact ⟨us, rfl, up_cells hFr hsafe nm h⟩
  | accv m n => exact hcu
  | accp m n => exact hcu
  | tup xs => exact hcu
theorem up_val {S0 S' : Store} {ρ2 : Nm → Nat} {b : Bool} (hFr : b = true → ∀ bb oo k n', w.cell? ⟨bb, oo, none⟩ = some (.int k n') → Fr w ρ S0 bb → Fr w ρ2 S' bb) {x : AVal} {u : Value} (hsafe : x.safe b = true)
    (nm : ∀ m, x.at m → S0 m = S' m ∧ ρ2 m = ρ m) (hcu : VS w ρ S0 x u) : VS w ρ2 S' x u := by
  cases x with
  | c x => exact up_val1 (x := .c x) hFr hsafe nm hcu
  | agg cs => exact up_val1 (x := .agg cs) hFr hsafe nm hcu
  | fn f cs => exact up_val1 (x := .fn f cs) hFr hsafe nm hcu
  | accv m n =>
    obtain ⟨h1, h2⟩ := nm m rfl
    obtain ⟨ty, sz, L, ho, g⟩ := hcu
    exact ⟨ty, sz, L, by rw [← h1]; exact ho, by rw [h2]; exact g⟩
  | accp m n =>
    obtain ⟨h1, h2⟩ := nm m rfl
    obtain ⟨ty, sz, L, ho, g⟩ := hcu
    exact ⟨ty, sz, L, by rw [← h1]; exact ho, by rw [h2]; exact g⟩
  | tup xs =>
    obtain ⟨vs, rfl, hl, h⟩ := hcu
    refine ⟨vs, rfl, hl, fun i x hi => ?_⟩
    obtain ⟨u, h1, h2⟩ := h i x hi
    have hx := List.mem_of_getElem? hi
    exact ⟨u, h1, up_val1 hFr (List.all_eq_true.1 hsafe x hx) (fun m hm => nm m ⟨x, hx, hm⟩) h2⟩

theorem updL_same_of_mem : ∀ (U : List (Nm × AObj)) (S S' : Store) {m : Nm}, (∃ o, (m, o) ∈ U) → updL S U m = updL S' U m
  | [], S, S', m, ⟨o, h⟩ => by cases h
  | p :: U, S, S', m, ⟨o, h⟩ => by
    simp only [updL]
    by_cases q : ∃ o, (m, o) ∈ U
    · exact updL_same_of_mem U _ _ q
    · have hno : ∀ r ∈ U, r.1 ≠ m := fun r hr e => q ⟨r.2, by rw [← e]; exact hr⟩
      rw [updL_ne _ _ _ hno, updL_ne _ _ _ hno]
      rcases List.mem_cons.1 h with e | h
      · subst e; rw [upd_same, upd_same]
      · exact absurd ⟨o, h⟩ q

theorem ACalls.lend {f : FuncId} {args xs : List AVal} {res : Nm → AVal} {ups : Nm → List (Nm × AObj)} {Φ : Store} {pre : SL} {X : List Nm} {b : Bool}
    (hc : ∀ Φ0, (∀ p ∈ pre, Φ0 p.1 = some p.2) → ACalls P f args Φ0 res ups)
    (hargs : LendVs Φ (fun m => if m ∈ X then none else Φ m) xs args)
    (hpre : ∀ p ∈ pre, Φ p.1 = some p.2 ∧ Rch Φ xs p.1 ∧ p.1 ∉ X ∧ ∀ x ∈ p.2.cls, x.safe b = true ∧ ∀ q, x.at q → q ∉ X ∧ q ∈ pre.map Prod.fst)
    (hX : ∀ m ∈ X, Rch Φ xs m ∧ ∃ ty cs, Φ m = some (.cells ty cs) ∧ (b = true → ∀ c ∈ cs, c.noInt = true))
    (hres : ∀ n, (res n).safe b = true) (hups : ∀ n, ∀ p ∈ ups n, ∀ x ∈ p.2.cls, x.safe b = true)
    (hupsN : ∀ n, ∀ p ∈ ups n, p.1 = n ∨ (∃ i, p.1 = .fam n i) ∨ p.1 ∈ pre.map Prod.fst)
    (hnmN : ∀ n m, ((res n).at m ∨ ∃ p ∈ ups n, ∃ x ∈ p.2.cls, x.at m) → (∃ o, (m, o) ∈ ups n) ∨ m ∈ pre.map Prod.fst) : ACalls P f xs Φ res ups := by
  intro n S hag hn hnf w ρ vs he hgl hvs
  have hXS : ∀ m ∈ X, ∃ ty cs, S m = some (.cells ty cs) ∧ (b = true → ∀ c ∈ cs, c.noInt = true) := fun m hm => by
    obtain ⟨h1, ty, cs, h2, h3⟩ := hX m hm
    exact ⟨ty, cs, by rw [hag m h1]; exact h2, h3⟩
  have hpreS : ∀ p ∈ pre, S p.1 = some p.2 := fun p hp => by
    obtain ⟨h1, h2, -⟩ := hpre p hp
    rw [hag _ h2]; exact h1
  have hpreM : ∀ m ∈ pre.map Prod.fst, ∃ o, (m, o) ∈ pre := fun m hm => by
    obtain ⟨p, hp, rfl⟩ := List.mem_map.1 hm; exact ⟨p.2, hp⟩
  obtain ⟨S0, hS0⟩ : ∃ S0, S0 = lendS w ρ S pre X := ⟨_, rfl⟩
  have he0 : EnvS w ρ S0 := by
    rw [hS0]
    refine lend_env he fun m hm o ho x hx q hq => ?_
    obtain ⟨o', h1⟩ := hpreM m hm
    have := hpreS _ h1
    simp only at this
    rw [ho] at this
    obtain rfl := Option.some.inj this
    exact (((hpre _ h1).2.2.2 x hx).2 q hq).1
  have hs0 : Seen w ρ S S0 := by rw [hS0]; exact lend_seen he
  have hnX : ∀ m, S m = none → m ∉ X := fun m hm hx => by obtain ⟨_, _, h, -⟩ := hXS m hx; rw [hm] at h; cases h
  have hX0 : ∀ m ∈ X, S0 m = none := fun m hm => by rw [hS0]; unfold lendS; rw [if_pos hm]
  have hn0 : S0 n = none := by rw [hS0]; exact (lendS_dom (hnX n hn)).2 hn
  have hnf0 : ∀ i, S0 (.fam n i) = none := fun i => by rw [hS0]; exact (lendS_dom (hnX _ (hnf i))).2 (hnf i)
  have hpre0 : ∀ p ∈ pre, S0 p.1 = some p.2 := fun p hp => by
    rw [hS0]; unfold lendS
    rw [if_neg (hpre p hp).2.2.1, if_pos (List.mem_map_of_mem hp)]; exact hpreS p hp
  -- the arguments
  have hargs0 : VSs w ρ S0 args vs := by
    have key : ∀ {x y : AVal} {u : Value}, x ∈ xs → LendV Φ (fun m => if m ∈ X then none else Φ m) x y → VS w ρ S x u → VS w ρ S0 y u := by
      intro x y u hx hl hu
      have cellk : ∀ {c d : Cell} {v : Value}, (∀ m, c.at m → x.at m) → FrzC0 Φ (fun m => if m ∈ X then none else Φ m) c d → CellS w ρ S c v → CellS w ρ S0 d v := by
        intro c d v hcx hf hv
        have hrc : ∀ m, RchC Φ c m → Rch Φ xs m := by
          intro m hm
          induction hm with
          | base hm => exact .base hx (hcx _ hm)
          | step _ ho hc hq ih => exact .step ih ho hc hq
        refine FrzC0.heldS hs0 he (hf.tr fun m hm => ?_) hv
        have hSm := hag m (hrc m hm)
        refine ⟨hSm, fun h => ?_, fun h => ?_⟩
        · by_cases q : m ∈ X
          · exact hX0 m q
          · simp only [if_neg q] at h
            rw [hS0]; exact (lendS_dom q).2 (by rw [hSm]; exact h)
        · by_cases q : m ∈ X
          · simp only [if_pos q] at h; exact absurd rfl h
          · simp only [if_neg q] at h
            rw [hS0]; exact fun e => h (by rw [← hSm]; exact (lendS_dom q).1 e)
      have cellsk : ∀ {cs ds : List Cell} {us : List Value}, (∀ c ∈ cs, ∀ m, c.at m → x.at m) → cs.length = ds.length → (∀ (i : Nat) (c d : Cell), cs[i]? = some c → ds[i]? = some d → FrzC0 Φ (fun m => if m ∈ X then none else Φ m) c d) → CellsS w ρ S cs us → CellsS w ρ S0 ds us := by
        intro cs ds us hcx hl h ⟨g1, g2⟩
        refine ⟨by omega, fun i y hy => ?_⟩
        have hlt := (List.getElem?_eq_some_iff.1 hy).1
        have hlt' : i < cs.length := by omega
        obtain ⟨u, p1, p2, p3⟩ := g2 i _ (List.getElem?_eq_getElem hlt')
        exact ⟨u, p1, p2, cellk (hcx _ (List.getElem_mem hlt')) (h i _ y (List.getElem?_eq_getElem hlt') hy) p3⟩
      cases hl with
      | c h => exact cellk (fun m hm => hm) h hu
      | agg hl h => obtain ⟨us, rfl, hu⟩ := hu; exact ⟨us, rfl, cellsk (fun c hc m hm => ⟨c, hc, hm⟩) hl h hu⟩
      | fn hl h => obtain ⟨us, rfl, hu⟩ := hu; exact ⟨us, rfl, cellsk (fun c hc m hm => ⟨c, hc, hm⟩) hl h hu⟩
    have : ∀ (l l' : List AVal) (us : List Value), (∀ x ∈ l, x ∈ xs) → LendVs Φ (fun m => if m ∈ X then none else Φ m) l l' → VSs w ρ S l us → VSs w ρ S0 l' us := by
      intro l
      induction l with
      | nil => intro l' us _ hl hv; cases l' with
        | nil => exact ⟨hv.1, fun i x hi => by simp at hi⟩
        | cons _ _ => exact hl.elim
      | cons x l ih =>
        intro l' us hmem hl hv
        cases l' with
        | nil => exact hl.elim
        | cons y l' =>
          cases us with
          | nil => have := hv.1; simp at this
          | cons u us =>
            have h1 := ih l' us (fun z hz => hmem z (by simp [hz])) hl.2 ⟨by simpa using hv.1, fun i z hz => hv.2 (i + 1) z (by simpa using hz)⟩
            refine ⟨by have := h1.1; simp [this], fun i z hz => ?_⟩
            match i with
            | 0 =>
              simp only [List.getElem?_cons_zero, Option.some.injEq] at hz
              subst hz
              obtain ⟨u', e, hu'⟩ := hv.2 0 x rfl
              exact ⟨u', e, key (hmem x (by simp)) hl.1 hu'⟩
            | i + 1 => exact h1.2 i z (by simpa using hz)
    exact this xs args vs (fun _ h => h) hargs hvs
  -- the call
  rcases hc S0 hpre0 n S0 (fun _ _ => rfl) hn0 hnf0 w ρ vs he0 (fun g cs hg => (hgl g cs hg).imp fun b hb => ⟨hs0.fr hb, fun _ => rfl⟩) hargs0 with ⟨hrun, hcall⟩ | ⟨v, hrun, hv, hu⟩
  · refine .inl ⟨hrun, hcall.mono ?_⟩
    rintro e w' ⟨ρ', v, rfl, he', hx', hv'⟩
    have hupX : ∀ p ∈ ups n, p.1 ∉ X := fun p hp => by
      rcases hupsN n p hp with q | ⟨i, q⟩ | q
      · rw [q]; exact hnX n hn
      · rw [q]; exact hnX _ (hnf i)
      · obtain ⟨o, ho⟩ := hpreM _ q; exact (hpre _ ho).2.2.1
    have hX1 : ∀ m ∈ X, updL S0 (ups n) m = none ∧ updL S (ups n) m = S m := fun m hm => by
      have hno : ∀ p ∈ ups n, p.1 ≠ m := fun p hp e => hupX p hp (by rw [e]; exact hm)
      exact ⟨by rw [updL_ne _ _ _ hno]; exact hX0 m hm, updL_ne _ _ _ hno⟩
    -- the names that are not lent
    have hother : ∀ m, m ∉ X → (updL S0 (ups n) m = updL S (ups n) m ∧ ((∃ o, (m, o) ∈ ups n) ∨ m ∈ pre.map Prod.fst)) ∨ (updL S (ups n) m = S m ∧ updL S0 (ups n) m = S0 m ∧ m ∉ pre.map Prod.fst) := by
      intro m hm
      by_cases q : ∃ o, (m, o) ∈ ups n
      · exact .inl ⟨updL_same_of_mem _ _ _ q, .inl q⟩
      · have hno : ∀ p ∈ ups n, p.1 ≠ m := fun p hp e => q ⟨p.2, by rw [← e]; exact hp⟩
        by_cases z : m ∈ pre.map Prod.fst
        · refine .inl ⟨?_, .inr z⟩
          rw [updL_ne _ _ _ hno, updL_ne _ _ _ hno, hS0]
          unfold lendS; rw [if_neg hm, if_pos z]
        · exact .inr ⟨updL_ne _ _ _ hno, updL_ne _ _ _ hno, z⟩
    obtain ⟨ρ2, hρ2⟩ : ∃ ρ2 : Nm → Nat, ρ2 = fun m => if m ∈ X then ρ m else ρ' m := ⟨_, rfl⟩
    have ρX : ∀ m ∈ X, ρ2 m = ρ m := fun m hm => by rw [hρ2]; exact if_pos hm
    have ρN : ∀ m, m ∉ X → ρ2 m = ρ' m := fun m hm => by rw [hρ2]; exact if_neg hm
    have hreal0 : ∀ m o, m ∉ X → updL S (ups n) m = some o → ∃ o', updL S0 (ups n) m = some o' ∧ o'.real = o.real ∧ (o.isAcc = false → o'.isAcc = false) := by
      intro m o hm ho
      rcases hother m hm with ⟨e, -⟩ | ⟨e1, e2, -⟩
      · exact ⟨o, by rw [e]; exact ho, rfl, fun h => h⟩
      · rw [e1] at ho
        rw [e2, hS0]; exact lendS_kp ho hm
    have hback : ∀ m o', updL S0 (ups n) m = some o' → o'.real = true → m ∉ X ∧ ∃ o, updL S (ups n) m = some o ∧ o.real = true := by
      intro m o' ho hr
      have hm : m ∉ X := fun h => by rw [(hX1 m h).1] at ho; cases ho
      refine ⟨hm, ?_⟩
      rcases hother m hm with ⟨e, -⟩ | ⟨e1, e2, -⟩
      · exact ⟨o', by rw [← e]; exact ho, hr⟩
      · rw [e2, hS0] at ho
        obtain ⟨o1, a1, a2, -⟩ := lendS_real ho hr
        exact ⟨o1, by rw [e1]; exact a1, a2⟩
    have hsame : ∀ bb, bb < w.heap.size → (∀ m o, S0 m = some o → o.real = true → ρ m ≠ bb) → w'.heap[bb]? = w.heap[bb]? := hx'.old
    have hXheap : ∀ m ∈ X, w'.heap[ρ m]? = w.heap[ρ m]? := fun m hm => by
      obtain ⟨ty, cs, h1, -⟩ := hXS m hm
      refine hsame _ (he.lt h1 rfl) fun m' o' hm' hr' e => ?_
      rw [hS0] at hm'
      obtain ⟨o1, a1, a2, a3⟩ := lendS_real hm' hr'
      have := he.inj m' m o1 _ a1 h1 a2 rfl e
      subst this
      exact a3 hm
    have hoher : ∀ m o, m ∉ X → m ∉ pre.map Prod.fst → S m = some o → o.real = true → (∀ o2, (m, o2) ∉ ups n) → w'.heap[ρ m]? = w.heap[ρ m]? ∧ ρ' m = ρ m := by
      intro m o hm hz ho hr hno
      have hno' : ∀ p ∈ ups n, p.1 ≠ m := fun p hp e => hno p.2 (by rw [← e]; exact hp)
      have h0 : S0 m = some (.fix ((w.heap[ρ m]?).getD (.cells #[] 0 (0, 0)))) := by
        rw [hS0]; unfold lendS; rw [if_neg hm, if_neg hz, ho]; simp only [hr, if_true]
      obtain ⟨o', a1, -, a3⟩ := hx'.kp m _ h0 rfl
      have h1 := he'.obj m _ (show updL S0 (ups n) m = _ by rw [updL_ne _ _ _ hno']; exact h0)
      have hlt := he.lt ho hr
      refine ⟨?_, a3⟩
      rw [a3] at h1
      have h2 : w'.heap[ρ m]? = some ((w.heap[ρ m]?).getD (.cells #[] 0 (0, 0))) := h1
      rw [h2, Array.getElem?_eq_getElem hlt]; rfl
    have hext : Ext (fun _ => False) w ρ S w' ρ2 (updL S (ups n)) := by
      refine ⟨hx'.os, hx'.tape, hx'.output, hx'.size, fun bb hb1 hb2 => hsame bb hb1 fun m o hm hr => ?_, fun m o' hm hr => ?_, fun m o hm ha => ?_, fun m o _ hm hr ty q hq => ?_, fun m ty sz L _ hm => ?_, fun _ h => h.elim⟩
      · rw [hS0] at hm
        obtain ⟨o1, a1, a2, -⟩ := lendS_real hm hr
        exact hb2 m o1 a1 a2
      · by_cases hx : m ∈ X
        · rw [(hX1 m hx).2] at hm
          exact .inl ⟨o', hm, hr, ρX m hx⟩
        · obtain ⟨o1, a1, a2, -⟩ := hreal0 m o' hx hm
          rw [ρN m hx]
          rcases hx'.nms m o1 a1 (by rw [a2]; exact hr) with ⟨o2, b1, b2, b3⟩ | b1
          · rw [hS0] at b1
            obtain ⟨o3, c1, c2, -⟩ := lendS_real b1 b2
            exact .inl ⟨o3, c1, c2, b3⟩
          · exact .inr b1
      · by_cases hx : m ∈ X
        · exact ⟨o, by rw [(hX1 m hx).2]; exact hm, ha, ρX m hx⟩
        · obtain ⟨o1, a1, -, a3⟩ := lendS_kp (w := w) (ρ := ρ) (pre := pre) hm hx
          rw [← hS0] at a1
          obtain ⟨o2, b1, b2, b3⟩ := hx'.kp m o1 a1 (a3 ha)
          rw [ρN m hx]
          rcases hother m hx with ⟨e, -⟩ | ⟨e1, -, -⟩
          · exact ⟨o2, by rw [← e]; exact b1, b2, b3⟩
          · exact ⟨o, by rw [e1]; exact hm, ha, b3⟩
      · by_cases hx : m ∈ X
        · obtain ⟨us, p1, p2⟩ := hq
          exact ⟨us, by rw [hXheap m hx]; exact p1, p2⟩
        · obtain ⟨o1, a1, a2, -⟩ := lendS_kp (w := w) (ρ := ρ) (pre := pre) hm hx
          rw [← hS0] at a1
          exact hx'.szs m o1 (fun h => h) a1 (by rw [a2]; exact hr) ty q hq
      · have hx : m ∉ X := fun h => by obtain ⟨_, _, h1, -⟩ := hXS m h; rw [hm] at h1; cases h1
        rw [ρN m hx]
        rcases hother m hx with ⟨e, hz⟩ | ⟨e1, e2, hz⟩
        · have hz' : m ∈ pre.map Prod.fst := by
            rcases hz with ⟨o, ho⟩ | hz
            · rcases hupsN n _ ho with q | ⟨i, q⟩ | q
              · simp only at q; rw [q, hn] at hm; cases hm
              · simp only at q; rw [q, hnf] at hm; cases hm
              · exact q
            · exact hz
          have h0 : S0 m = some (.acc ty sz L) := by rw [hS0]; unfold lendS; rw [if_neg hx, if_pos hz']; exact hm
          obtain ⟨a1, a2⟩ := hx'.acc m ty sz L (fun h => h) h0
          exact ⟨by rw [← e]; exact a1, a2⟩
        · refine ⟨by rw [e1]; exact hm, fun hl => ?_⟩
          have hr : (AObj.acc ty sz L).real = true := AObj.acc_real hl
          obtain ⟨o1, a1, -, -⟩ := lendS_kp (w := w) (ρ := ρ) (pre := pre) hm hx
          have h0 : S0 m = some (.fix ((w.heap[ρ m]?).getD (.cells #[] 0 (0, 0)))) := by
            rw [hS0]; unfold lendS; rw [if_neg hx, if_neg hz, hm]; simp only [hr, if_true]
          obtain ⟨_, -, -, b3⟩ := hx'.kp m _ h0 rfl
          exact b3
    -- what the callee tells stands for us too
    have hFr : b = true → ∀ bb oo k n', w'.cell? ⟨bb, oo, none⟩ = some (.int k n') → Fr w' ρ' (updL S0 (ups n)) bb → Fr w' ρ2 (updL S (ups n)) bb := by
      intro hb bb oo k n' hcell hf
      refine ⟨hf.1, fun m o hm hr e => ?_⟩
      by_cases hx : m ∈ X
      · rw [ρX m hx] at e
        obtain ⟨ty, cs, h1, h2⟩ := hXS m hx
        obtain ⟨us, q1, q0, q2⟩ := he.obj m _ h1
        have hh := hXheap m hx
        rw [e] at hh q1
        rw [q1] at hh
        rw [cell_of_heap hh] at hcell
        have hlt := (Array.getElem?_eq_some_iff.1 hcell).1
        obtain ⟨u, p1, -, p3⟩ := q2 oo _ (List.getElem?_eq_getElem (by omega))
        rw [hcell] at p1
        obtain rfl := Option.some.inj p1
        exact noInt_val (h2 hb _ (List.getElem_mem (by omega))) p3 k n' rfl
      · obtain ⟨o1, a1, a2, -⟩ := hreal0 m o hx hm
        rw [ρN m hx] at e
        exact hf.2 m o1 a1 (by rw [a2]; exact hr) e
    have nm : ∀ m, (∃ o, (m, o) ∈ ups n) ∨ m ∈ pre.map Prod.fst → updL S0 (ups n) m = updL S (ups n) m ∧ ρ2 m = ρ' m := by
      intro m hm
      rcases hm with ⟨o, ho⟩ | hz
      · exact ⟨updL_same_of_mem _ _ _ ⟨o, ho⟩, ρN m (hupX _ ho)⟩
      · obtain ⟨o, ho⟩ := hpreM m hz
        have hx := (hpre _ ho).2.2.1
        refine ⟨?_, ρN m hx⟩
        rcases hother m hx with ⟨e, -⟩ | ⟨-, -, h⟩
        · exact e
        · exact absurd hz h
    have hup : ∀ {c : Cell} {u : Value}, c.safe b = true → (∀ m, c.at m → (∃ o, (m, o) ∈ ups n) ∨ m ∈ pre.map Prod.fst) → CellS w' ρ' (updL S0 (ups n)) c u → CellS w' ρ2 (updL S (ups n)) c u :=
      fun hsafe hnm hcu => up_cell hFr hsafe (fun m hm => nm m (hnm m hm)) hcu
    have hupO : ∀ {o : AObj} {bb : Nat}, (∀ x ∈ o.cls, x.safe b = true ∧ ∀ m, x.at m → (∃ o, (m, o) ∈ ups n) ∨ m ∈ pre.map Prod.fst) → ObjS w' ρ' (updL S0 (ups n)) bb o → ObjS w' ρ2 (updL S (ups n)) bb o := by
      intro o bb hs ho
      cases o with
      | ints ty k L => exact ho
      | fix x => exact ho
      | row ty cs =>
        obtain ⟨us, q1, q2⟩ := ho
        refine ⟨us, q1, fun i x hi => ?_⟩
        obtain ⟨u, p1, p2, p3⟩ := q2 i x hi
        obtain ⟨s1, s2⟩ := hs x (List.mem_of_getElem? hi)
        exact ⟨u, p1, p2, hup s1 s2 p3⟩
      | cells ty cs =>
        obtain ⟨us, q1, q0, q2⟩ := ho
        refine ⟨us, q1, q0, fun i x hi => ?_⟩
        obtain ⟨u, p1, p2, p3⟩ := q2 i x hi
        obtain ⟨s1, s2⟩ := hs x (List.mem_of_getElem? hi)
        exact ⟨u, p1, p2, hup s1 s2 p3⟩
      | acc ty sz L =>
        rcases ho with ho | ⟨us, q1, q0, q2⟩
        · exact .inl ho
        · refine .inr ⟨us, q1, q0, fun i c j x hi hj => ?_⟩
          obtain ⟨u, p1, p2, p3⟩ := q2 i c j x hi hj
          obtain ⟨s1, s2⟩ := hs x (List.mem_flatten.2 ⟨c, List.mem_of_getElem? hi, List.mem_of_getElem? hj⟩)
          exact ⟨u, p1, p2, hup s1 s2 p3⟩
    refine ⟨ρ2, v, rfl, ⟨fun m m' o o' h1 h2 r1 r2 e => ?_, fun m o hm => ?_⟩, hext, ?_⟩
    · have key : ∀ m m' o o', m ∈ X → m' ∉ X → updL S (ups n) m = some o → updL S (ups n) m' = some o' → o'.real = true → ρ2 m = ρ2 m' → False := by
        intro m m' o o' hx hx2 h1 h2 r2 e
        rw [ρX m hx, ρN m' hx2] at e
        obtain ⟨ty, cs, g1, -⟩ := hXS m hx
        obtain ⟨o1, a1, a2, -⟩ := hreal0 m' o' hx2 h2
        rcases hx'.nms m' o1 a1 (by rw [a2]; exact r2) with ⟨o2, b1, b2, b3⟩ | b1
        · rw [hS0] at b1
          obtain ⟨o3, c1, c2, -⟩ := lendS_real b1 b2
          have := he.inj m m' _ o3 g1 c1 rfl c2 (by rw [e, b3])
          subst this
          exact hx2 hx
        · have := he.lt g1 rfl
          omega
      by_cases hx : m ∈ X <;> by_cases hx2 : m' ∈ X
      · rw [(hX1 m hx).2] at h1
        rw [(hX1 m' hx2).2] at h2
        rw [ρX m hx, ρX m' hx2] at e
        exact he.inj m m' o o' h1 h2 r1 r2 e
      · exact (key m m' o o' hx hx2 h1 h2 r2 e).elim
      · exact (key m' m o' o hx2 hx h2 h1 r1 e.symm).elim
      · obtain ⟨o1, a1, a2, -⟩ := hreal0 m o hx h1
        obtain ⟨o2, b1, b2, -⟩ := hreal0 m' o' hx2 h2
        rw [ρN m hx, ρN m' hx2] at e
        exact he'.inj m m' o1 o2 a1 b1 (by rw [a2]; exact r1) (by rw [b2]; exact r2) e
    · by_cases hx : m ∈ X
      · rw [(hX1 m hx).2] at hm
        rw [ρX m hx]
        exact (he.obj m o hm).ext hext (fun x hxx => by rw [hXheap m hx]; exact hxx)
      · rcases hother m hx with ⟨e, hz⟩ | ⟨e1, e2, hz⟩
        · have h1 := he'.obj m o (by rw [e]; exact hm)
          rw [ρN m hx]
          refine hupO (fun x hxc => ?_) h1
          rcases updL_get _ _ _ _ hm with q | q
          · rcases hz with ⟨o2, ho2⟩ | hz
            · rcases hupsN n _ ho2 with q1 | ⟨i, q1⟩ | q1
              · simp only at q1; rw [q1, hn] at q; cases q
              · simp only at q1; rw [q1, hnf] at q; cases q
              · obtain ⟨o3, ho3⟩ := hpreM m q1
                have h3 := hpreS _ ho3
                simp only at h3
                rw [q] at h3
                obtain rfl := Option.some.inj h3
                exact ⟨((hpre _ ho3).2.2.2 x hxc).1, fun r hr => .inr (((hpre _ ho3).2.2.2 x hxc).2 r hr).2⟩
            · obtain ⟨o3, ho3⟩ := hpreM m hz
              have h3 := hpreS _ ho3
              simp only at h3
              rw [q] at h3
              obtain rfl := Option.some.inj h3
              exact ⟨((hpre _ ho3).2.2.2 x hxc).1, fun r hr => .inr (((hpre _ ho3).2.2.2 x hxc).2 r hr).2⟩
          · exact ⟨hups n _ q x hxc, fun r hr => hnmN n r (.inr ⟨_, q, x, hxc, hr⟩)⟩
        · rw [e1] at hm
          by_cases hr : o.real = true
          · have hno : ∀ o2, (m, o2) ∉ ups n := fun o2 ho2 => by
              rcases hupsN n _ ho2 with q1 | ⟨i, q1⟩ | q1
              · simp only at q1; rw [q1, hn] at hm; cases hm
              · simp only at q1; rw [q1, hnf] at hm; cases hm
              · exact hz q1
            obtain ⟨g1, g2⟩ := hoher m o hx hz hm hr hno
            rw [ρN m hx, g2]
            exact (he.obj m o hm).ext hext (fun x hxx => by rw [g1]; exact hxx)
          · cases o with
            | acc ty sz L => cases L with | nil => exact .inl rfl | cons a l => exact absurd rfl hr
            | ints ty k L => exact absurd rfl hr
            | cells ty cs => exact absurd rfl hr
            | fix x => exact absurd rfl hr
            | row ty cs => exact absurd rfl hr
    · have hnm : ∀ m, (res n).at m → (∃ o, (m, o) ∈ ups n) ∨ m ∈ pre.map Prod.fst := fun m hm => hnmN n m (.inl hm)
      exact up_val hFr (hres n) (fun m hm => nm m (hnm m hm)) hv'
  · refine .inr ⟨v, hrun, ?_, hu⟩
    refine up_val (b := b) (ρ := ρ) (ρ2 := ρ) (fun hb bb oo k n' hcell hf => ⟨hf.1, fun m o hm hr e => ?_⟩) (hres n) (fun m hm => ⟨?_, rfl⟩) hv
    · by_cases hx : m ∈ X
      · obtain ⟨ty, cs, h1, h2⟩ := hXS m hx
        obtain ⟨us, q1, q0, q2⟩ := he.obj m _ h1
        rw [e] at q1
        rw [cell_of_heap q1] at hcell
        have hlt := (Array.getElem?_eq_some_iff.1 hcell).1
        obtain ⟨u, p1, -, p3⟩ := q2 oo _ (List.getElem?_eq_getElem (by omega))
        rw [hcell] at p1
        obtain rfl := Option.some.inj p1
        exact noInt_val (h2 hb _ (List.getElem_mem (by omega))) p3 k n' rfl
      · obtain ⟨o1, a1, a2, -⟩ := lendS_kp (w := w) (ρ := ρ) (pre := pre) hm hx
        rw [← hS0] at a1
        exact hf.2 m o1 a1 (by rw [a2]; exact hr) e
    · rcases hnmN n m (.inl hm) with ⟨o, ho⟩ | hz
      · rw [hu] at ho; cases ho
      · obtain ⟨o, ho⟩ := hpreM m hz
        rw [hpre0 _ ho, hpreS _ ho]
end
end Go.Abs

/-
  Lending, told by lists; places of what is gathered; rows.
-/
namespace Go.Abs
open Go

section
variable {P : Program} {T : TT} {mu : FuncId → Bool} {N : Nat} {ops : Array Oper} {fl : FL} {sl : SL} {S : Store} {K : St → Prop}
  {d : Nat} {ty : TypeId} {pos : String} {after : Array Edge}

abbrev lent (A : Store) (X : List Nm) : Store := fun m => if m ∈ X then none else A m

theorem lv0 {A B : Store} {x : Cell} (h : ∀ m, ¬ x.at m := by exact fun _ h => h.elim) : LendV A B (.c x) (.c x) := .c (.keep fun m hm => absurd hm (h m))
theorem lvK {sl : SL} {S : Store} {X : List Nm} {z : Nm} {off : Nat} {o : AObj} (hz : z ∉ X) (h : lkS sl z = some o) : LendV (ov sl S) (lent (ov sl S) X) (.c (.ptr z off)) (.c (.ptr z off)) :=
  .c (.keep fun m hm => by have e : z = m := hm; subst e; simp only [lent, if_neg hz]; rw [ov_of h]; simp)
theorem lvP {sl : SL} {S : Store} {X : List Nm} {z : Nm} {ty : TypeId} {ls : List Leaf} (hz : z ∈ X) (h : lkS sl z = some (.cells ty (ls.map Leaf.cell))) : LendV (ov sl S) (lent (ov sl S) X) (.c (.ptr z 0)) (.c (.pim ls)) := by
  refine .c (.ptr (fun j => ((ls[j]?).map Leaf.cell).getD .junk) (.inl (ov_of h)) (by simp only [lent, if_pos hz]) (fun j l hj => by simp [hj]) fun j l hj => ?_)
  simp only [hj, Option.map_some, Option.getD_some]
  exact .keep fun q hq => absurd hq (l.cell_nm q)

def AObj.safeO (b : Bool) (o : AObj) : Prop := ∀ x ∈ o.cls, x.safe b = true ∧ ∀ q, ¬ x.at q
theorem safeO_big {b : Bool} {ty : TypeId} {v : Value} {k : IntKind} {L : List Int} (h : b = true) : (AObj.cells ty (List.map Leaf.cell [.sc v, .ints k L])).safeO b := by
  subst h
  intro x hx
  simp only [AObj.cls, List.map_cons, List.map_nil, List.mem_cons, List.not_mem_nil, or_false] at hx
  rcases hx with rfl | rfl <;> exact ⟨rfl, fun q h => h⟩
theorem safeO_leaf {ty : TypeId} {a c : Leaf} (ha : a.cell.safe true = true) (hc : c.cell.safe true = true) : (AObj.cells ty (List.map Leaf.cell [a, c])).safeO true := by
  intro x hx
  simp only [AObj.cls, List.map_cons, List.map_nil, List.mem_cons, List.not_mem_nil, or_false] at hx
  rcases hx with rfl | rfl
  · exact ⟨ha, a.cell_nm⟩
  · exact ⟨hc, c.cell_nm⟩

def LentX (sl : SL) (xs : List AVal) (b : Bool) (X : List Nm) : Prop := ∀ m ∈ X, (∃ x ∈ xs, x.at m) ∧ ∃ ty cs, lkS sl m = some (.cells ty cs) ∧ (b = true → ∀ c ∈ cs, c.noInt = true)
theorem lentX1 {xs : List AVal} {b : Bool} {m : Nm} {ty : TypeId} {v : Bool} {k : IntKind} {L : List Int} (hx : ∃ x ∈ xs, x.at m) (h : lkS sl m = some (.cells ty (List.map Leaf.cell [.sc (.bool v), .ints k L]))) : LentX sl xs b [m] := by
  intro q hq
  simp only [List.mem_singleton] at hq
  subst hq
  refine ⟨hx, ty, _, h, fun _ c hc => ?_⟩
  simp only [List.map_cons, List.map_nil, List.mem_cons, List.not_mem_nil, or_false] at hc
  rcases hc with rfl | rfl <;> rfl
theorem s_lend1 {f : FuncId} {as : Array Operand} {tys : Array TypeId} {xs args : List AVal} {z : Nm} {o o' : AObj} {res : AVal} (hc : AProc P f args [(z, o)] [(z, o')] res) (X : List Nm)
    (hl : LendVs (ov sl (pushS S)) (lent (ov sl (pushS S)) X) xs args) (hX : LentX sl xs true X) (hz : (∃ x ∈ xs, x.at z) ∧ z ∉ X) (hres : res.safe true = true ∧ ∀ m, res.at m → m = z) (ho : o.safeO true) (ho' : o'.safeO true)
    (k : K ⟨lk' ((d, res) :: fl), ov ((z, o') :: sl) (pushS S)⟩) (hm : lkS sl z = some o := by exact lks)
    (hmu : mu f = true := by exact rfl) (hx : opsO fl as.toList = some xs := by exact rfl) (hf : freeO sl d = true := by exact fro) :
    Stp P mu ops ⟨some d, .call ⟨.value (.func f), as, tys⟩, ty, pos, after, none⟩ ⟨lk' fl, ov sl (pushS S)⟩ K := by
  have hzr : Rch (ov sl (pushS S)) xs z := .of hz.1
  have hXo : ∀ m ∈ X, Rch (ov sl (pushS S)) xs m ∧ ∃ ty cs, ov sl (pushS S) m = some (.cells ty cs) ∧ (true = true → ∀ c ∈ cs, c.noInt = true) := fun m hm => by
    obtain ⟨h1, ty, cs, h2, h3⟩ := hX m hm
    exact ⟨.of h1, ty, cs, ov_of h2, h3⟩
  have hcall := ACalls.lend (b := true) (pre := [(z, o)]) (Φ := ov sl (pushS S)) (X := X) (xs := xs) hc.calls hl
    (fun p hp => by
      simp only [List.mem_singleton] at hp
      subst hp
      exact ⟨ov_of hm, hzr, hz.2, fun x hx => ⟨(ho x hx).1, fun q hq => absurd hq ((ho x hx).2 q)⟩⟩) hXo (fun _ => hres.1)
    (fun _ p hp x hx => by
      simp only [List.mem_singleton] at hp
      subst hp
      exact (ho' x hx).1)
    (fun n p hp => .inr (.inr (by simp only [List.mem_singleton] at hp; subst hp; simp)))
    (fun n m hm => by
      rcases hm with hm | ⟨p, hp, x, hx, hq⟩
      · have := hres.2 m hm; subst this; exact .inr (by simp)
      · simp only [List.mem_singleton] at hp
        subst hp
        exact absurd hq ((ho' x hx).2 m))
  refine stp_call hcall rfl hx (by simp only [List.map_nil, List.append_nil]; exact ales_refl xs) hf (fun _ _ => rfl) ⟨fun p hp => .inr (.inr ⟨hmu, ?_⟩), .inr (.inl hmu), fun m hm => .inr ?_, fun p hp x hx m hm => ?_⟩ k
  · simp only [List.mem_singleton] at hp
    subst hp; exact hzr
  · have := hres.2 m hm; subst this; exact hzr
  · simp only [List.mem_singleton] at hp
    subst hp
    exact absurd hm ((ho' x hx).2 m)
where
  ales_refl : ∀ xs : List AVal, ALes xs xs
    | [] => trivial
    | x :: xs => ⟨ALe.refl x, ales_refl xs⟩

theorem s_lendF {f : FuncId} {as : Array Operand} {tys : Array TypeId} {xs args : List AVal} {res : AVal} (hc : AFun P f args res) (X : List Nm) (hl : LendVs (ov sl (pushS S)) (lent (ov sl (pushS S)) X) xs args) (hX : LentX sl xs true X)
    (k : K ⟨lk' ((d, res) :: fl), ov sl (pushS S)⟩) (hres : res.safe true = true := by exact rfl) (hx : opsO fl as.toList = some xs := by exact rfl) (hf : freeO sl d = true := by exact fro) :
    Stp P mu ops ⟨some d, .call ⟨.value (.func f), as, tys⟩, ty, pos, after, none⟩ ⟨lk' fl, ov sl (pushS S)⟩ K := by
  have hXo : ∀ m ∈ X, Rch (ov sl (pushS S)) xs m ∧ ∃ ty cs, ov sl (pushS S) m = some (.cells ty cs) ∧ (true = true → ∀ c ∈ cs, c.noInt = true) := fun m hm => by
    obtain ⟨h1, ty, cs, h2, h3⟩ := hX m hm
    exact ⟨.of h1, ty, cs, ov_of h2, h3⟩
  have hcall := ACalls.lend (b := true) (pre := []) (Φ := ov sl (pushS S)) (X := X) (xs := xs) (fun Φ0 _ => hc.calls Φ0) hl (by simp) hXo (fun _ => hres) (by simp) (by simp)
    (fun n m hm => by
      rcases hm with hm | ⟨p, hp, -⟩
      · exact absurd hm (hc.res0 m)
      · cases hp)
  exact stp_call hcall rfl hx (by simp only [List.map_nil, List.append_nil]; exact s_lend1.ales_refl xs) hf (fun _ _ => rfl) ⟨by simp, .inl rfl, fun m hm => absurd hm (hc.res0 m), by simp⟩ k

theorem ANew.made {f : FuncId} {args : List AVal} {tb : TypeId} {ls : List Leaf} (h : ANew P f args tb ls) : AMade P f args (fun n => .c (.ptr n 0)) (.cells tb (ls.map Leaf.cell)) where
  calls := h.calls
  args0 := h.args0
  resM := fun φ n => rfl
  resN := fun n m h => (show n = m from h).symm
  ob0 := fun x hx m => leaves_nm0 hx m

/-! ### Places of what is gathered -/
theorem za1 (hT : TOk P T) {t : TypeId} {x : Operand} {m : Nm} {j : Nat} {ty' : TypeId} {k : IntKind} {L : List Int} (kk : K ⟨lk' ((d, ivl k (L.getD j 0)) :: fl), ov sl S⟩) (hx : opO fl x = some (.accp m j) := by exact rfl) (ha : agT T t = some false := by exact rfl)
    (hm : lkS sl m = some (.accI ty' k L) := by exact lks) (hj : j < L.length := by first | omega | (simp; omega)) : Stp P mu ops ⟨some d, .load t x, ty, pos, after, none⟩ ⟨lk' fl, ov sl S⟩ K := by
  refine ⟨_, ⟨ivl k (L.getD j 0), ov sl S, ⟨?_, rfl⟩, rfl⟩, by rw [putF_lk]; exact kk⟩
  rw [opO_look hx]
  refine ⟨ty', 1, ir k L, j, 0, [.sc (.int k (L.getD j 0))], ov_of hm, by omega, ?_, .inr ⟨hT.ag ha, _, rfl, rfl⟩⟩
  rw [List.getElem?_map, List.getD_eq_getElem?_getD, List.getElem?_eq_getElem hj]; rfl
theorem za2 (hT : TOk P T) {t : TypeId} {x : Operand} {m : Nm} {off i j sz : Nat} {ty' : TypeId} {L : List (List Cell)} {y : Cell} (kk : K ⟨lk' ((d, .c y) :: fl), ov sl S⟩) (hy : ∃ c, L[i]? = some c ∧ c[j]? = some y) (ho : off = i * sz + j) (hx : opO fl x = some (.accp m off) := by exact rfl)
    (ha : agT T t = some false := by exact rfl) (hm : lkS sl m = some (.acc ty' sz L) := by exact lks) : Stp P mu ops ⟨some d, .load t x, ty, pos, after, none⟩ ⟨lk' fl, ov sl S⟩ K := by
  refine ⟨_, ⟨.c y, ov sl S, ⟨?_, rfl⟩, rfl⟩, by rw [putF_lk]; exact kk⟩
  rw [opO_look hx]
  obtain ⟨c, h1, h2⟩ := hy
  exact ⟨ty', sz, L, i, j, c, ov_of hm, ho, h1, .inr ⟨hT.ag ha, y, h2, rfl⟩⟩
end
end Go.Abs

/-
  Families of blocks: a list of pointers, each to a block of its own.
-/
namespace Go.Abs
open Go

theorem fam_put {g : Nat → Nm} (hg : ∀ i j, g i = g j → i = j) {lits : SL} (hl : ∀ i, lkS lits (g i) = none) {os : List AObj} {j : Nat} (hj : j < os.length) (o : AObj) (S : Store) :
    ov ((g j, o) :: (lits ++ famL g 0 os)) S = ov (lits ++ famL g 0 (os.set j o)) S := by
  refine ov_congr fun m => ?_
  simp only [lkS, lkS_app]
  by_cases hm : ∃ i, m = g i
  · obtain ⟨i, rfl⟩ := hm
    rw [hl i]
    simp only [lkS_fam hg]
    by_cases e : g i = g j
    · have := hg _ _ e
      subst this
      simp [hj]
    · rw [if_neg e, List.getElem?_set_ne (fun q => e (by rw [q]))]
  · have hm' : ∀ i, m ≠ g i := fun i e => hm ⟨i, e⟩
    rw [if_neg (hm' j), lkS_famN hm', lkS_famN hm']

section
variable {P : Program} {mu : FuncId → Bool} {N : Nat} {ops : Array Oper} {Q : Exit → St → Prop} {l : List Oper} {c : Code} {fr : Fram} {S1 S2 : Store}
theorem aw_sg (e : S1 = S2) (h : aw P mu N ops Q l ⟨fr, S2⟩) : aw P mu N ops Q l ⟨fr, S1⟩ := e ▸ h
end

/-! ### The store's family, told anew -/
theorem fFam {A B : Store} {g : Nat → Nm} : ∀ {os : List AObj} {s : Nat}, (∀ j o, os[j]? = some o → A (g (s + j)) = some o ∧ FrzO A B o o) → FrzS A B (famL g s os)
  | [], _, _ => trivial
  | o :: os, s, h => ⟨.inl ⟨o, (h 0 o rfl).1, (h 0 o rfl).2⟩, fFam (os := os) (s := s + 1) fun j o' hj => by
      have := h (j + 1) o' (by simpa using hj)
      rwa [show s + (j + 1) = s + 1 + j by omega] at this⟩
end Go.Abs

/-
  Functions that are handed a family, and that hand one out.
-/
namespace Go.Abs
open Go

def outM (U : SL) : SL := U.map fun p => (.out p.1, p.2.map .out)
theorem lkS_outM : ∀ (U : SL) (q : Nm), lkS (outM U) (.out q) = (lkS U q).map (·.map .out)
  | [], q => rfl
  | (m, o) :: U, q => by
    have ih := lkS_outM U q
    simp only [outM, List.map_cons, lkS, Nm.out.injEq] at ih ⊢
    rw [ih]
    split <;> rfl
theorem lkS_outM_ne : ∀ (U : SL) (q : Nm), (∀ m, q ≠ .out m) → lkS (outM U) q = none
  | [], q, _ => rfl
  | (m, o) :: U, q, h => by
    have ih := lkS_outM_ne U q h
    simp only [outM, List.map_cons, lkS] at ih ⊢
    rw [if_neg (h m), ih]
theorem outM_fam (g : Nat → Nm) : ∀ (os : List AObj) (s : Nat), (∀ o ∈ os, o.nm0) → outM (famL g s os) = famL (fun i => .out (g i)) s os
  | [], _, _ => rfl
  | o :: os, s, h => by
    have ih := outM_fam g os (s + 1) fun o ho => h o (by simp [ho])
    simp only [outM, famL, List.map_cons] at ih ⊢
    rw [ih, AObj.map_nm0 (h o (by simp))]

section
variable {P : Program} {mu : FuncId → Bool}
def EndM (P : Program) (fn : Func) (S : Store) (post : SL) (res : AVal) (e : Exit) (st : St) : Prop :=
  (e = .normal ∨ e = .ret) ∧ ∃ T fl vs, TOk P T ∧ Weak st ⟨lk' fl, ov (outM post) (pushS S)⟩ ∧ resL T fl fn.results.toList = some vs ∧ flatL vs = true ∧ oneR vs = res.map .out

theorem aprocM {f : FuncId} {fn : Func} {c : Code} {args : List AVal} {pre post : SL} {res : AVal} (hf : P.funcs[f]? = some fn) (hb : fn.body = some c) (hname : (fn.name == "runtime.NumGoroutine") = false)
    (hm : P.follows .mixedOrders = true) (hok : okC fn.ntmps mu c = true) (hl : args.length ≤ fn.ntmps) (hR : ∀ Φ, (∀ p ∈ pre, Φ p.1 = some p.2) → ∀ p ∈ pre, Rch Φ args p.1) (hnd0 : (pre.map Prod.fst).Nodup)
    (hps : post.map Prod.fst = pre.map Prod.fst) (hpN : ∀ p ∈ post, ∀ x ∈ p.2.cls, ∀ m, x.at m → m ∈ pre.map Prod.fst) (hrN : ∀ q, res.at q → q ∈ pre.map Prod.fst)
    (h : ∀ S, (∀ n b, S n = some b → b.cl S) → awp P mu fn.ntmps c (EndM P fn S post res) ⟨lk' (entryL 0 (args.map (·.map .out))), ov (outM pre) (pushS S)⟩) : AProc P f args pre post res := by
  have inpre : ∀ m, m ∈ pre.map Prod.fst → ∃ p ∈ pre, p.1 = m := fun m hm => by obtain ⟨p, hp, e⟩ := List.mem_map.1 hm; exact ⟨p, hp, e⟩
  have hnd : (post.map Prod.fst).Nodup := by rw [hps]; exact hnd0
  refine ⟨fun Φ hΦ => acalls hf hb hname hm hok hl fun n S hag hn hnf hcl => ?_, fun Φ hΦ q hq => ?_, fun Φ hΦ p hp => ?_, fun Φ hΦ p hp x hx m hm => ?_⟩
  rotate_left
  · obtain ⟨p, hp, rfl⟩ := inpre q (hrN q hq); exact hR Φ hΦ p hp
  · obtain ⟨p', hp', e⟩ := inpre p.1 (by rw [← hps]; exact List.mem_map_of_mem hp); rw [← e]; exact hR Φ hΦ p' hp'
  · obtain ⟨p', hp', e⟩ := inpre m (hpN p hp x hx m hm); rw [← e]; exact hR Φ hΦ p' hp'
  have hS : ∀ p ∈ pre, S p.1 = some p.2 := fun p hp => by rw [hag p.1 (hR Φ hΦ p hp)]; exact hΦ p hp
  have e0 : ov (outM pre) (pushS S) = ov [] (pushS S) := by
    rw [show ov [] (pushS S) = pushS S from rfl]
    refine ov_self fun m o hm => ?_
    have : ∃ q, m = .out q := by
      cases m with
      | out q => exact ⟨q, rfl⟩
      | _ => rw [lkS_outM_ne _ _ (fun m e => by cases e)] at hm; cases hm
    obtain ⟨q, rfl⟩ := this
    rw [lkS_outM] at hm
    cases e : lkS pre q with
    | none => rw [e] at hm; cases hm
    | some o' =>
      rw [e] at hm
      obtain rfl := Option.some.inj hm
      have := hS _ (lkS_mem e)
      simp only at this
      simp only [pushS, this, Option.map_some]
  refine awp_weak _ (entry_weak args S) ?_
  have hh := h S hcl
  rw [e0] at hh
  refine awp_post (awp_mono hh ?_)
  have hne := old_ne hn hnf
  have hpreD : ∀ m ∈ pre.map Prod.fst, S m ≠ none := fun m hm => by
    obtain ⟨p, hp, rfl⟩ := inpre m hm
    rw [hS p hp]; simp
  have hpostS : ∀ q o, lkS post q = some o → S q ≠ none := fun q o ho => hpreD q (by rw [← hps]; exact List.mem_map_of_mem (lkS_mem ho))
  rintro e st ⟨he, T, fl, vs, hT, h1, h2, h3, h4⟩
  refine ⟨_, h1, he, vs, fun _ => .new, resL_spec hT h2, flatL_spec h3, fun _ => rfl, ?_, ?_, ?_⟩
  · have hdom : ∀ m, updL S post m ≠ none → S m ≠ none := fun m hm => by
      rw [updL_lk _ _ _ hnd] at hm
      cases e : lkS post m with
      | none => rw [e] at hm; exact hm
      | some o => exact hpostS m o e
    refine ⟨fun m m' q1 q2 e => ?_, fun m o hm => ?_, fun m o hm => ?_⟩
    · rw [if_neg (hne m (hdom m q1)), if_neg (hne m' (hdom m' q2))] at e; injection e
    · have hm0 := hdom m (by rw [hm]; simp)
      rw [if_neg (hne m hm0)]
      rw [updL_lk _ _ _ hnd] at hm
      simp only [ov, lkS_outM]
      cases e : lkS post m with
      | none =>
        rw [e] at hm
        simp only [Option.map_none] at hm ⊢
        rw [map_old hne (hcl m o hm)]
        simp [pushS, hm]
      | some o' =>
        rw [e] at hm
        obtain rfl := Option.some.inj hm
        simp only [Option.map_some, Option.some.injEq]
        refine (AObj.map_congr fun x hx q hq => ?_).symm
        exact if_neg (hne q (hpreD q (hpN _ (lkS_mem e) x hx q hq)))
    · rw [updL_lk _ _ _ hnd] at hm
      have mono : ∀ q, S q ≠ none → updL S post q ≠ none := fun q hq => updL_dom _ _ _ hq
      cases e : lkS post m with
      | none =>
        rw [e] at hm
        exact cl_mono mono (hcl m o hm)
      | some o' =>
        rw [e] at hm
        obtain rfl := Option.some.inj hm
        exact AObj.cl_cls.2 fun x hx q hq => mono q (hpreD q (hpN _ (lkS_mem e) x hx q hq))
  · exact fun q hq => updL_dom _ _ _ (hpreD q (hrN q hq))
  · rw [h4]
    exact AVal.map_congr fun q hq => by rw [if_neg (hne q (hpreD q (hrN q hq)))]

variable {T : TT} {ops : Array Oper} {fl : FL} {sl : SL} {S : Store} {K : St → Prop} {d : Nat} {ty : TypeId} {pos : String} {after : Array Edge}

theorem endM (hT : TOk P T) {fn : Func} {post sl' : SL} {res : AVal} {e : Exit} {fl' : FL} {vs : List AVal} (he : e = .normal ∨ e = .ret) (hS : ∀ n b, S n = some b → b.cl S) (hp : sl' = outM post) (ho : outsL sl' = outsL sl)
    (hs : FrzS (ov sl (pushS S)) (ov sl' (pushS S)) sl') (hf : FrzF (ov sl (pushS S)) (ov sl' (pushS S)) fl fl')
    (hr : resL T fl' fn.results.toList = some vs) (hfl : flatL vs = true) (h1 : oneR vs = res.map .out) : EndM P fn S post res e ⟨lk' fl, ov sl (pushS S)⟩ :=
  ⟨he, T, fl', vs, hT, by rw [← hp]; exact frz hS ho hs hf, hr, hfl, h1⟩

theorem updL_ovN {S : Store} {sl U : SL} (h : (U.map Prod.fst).Nodup) : updL (ov sl S) U = ov (U ++ sl) S := by
  funext m
  rw [updL_lk _ _ _ h]
  simp only [ov, lkS_app]
  cases lkS U m <;> rfl

theorem s_procM {f : FuncId} {as : Array Operand} {tys : Array TypeId} {xs args : List AVal} {pre post : SL} {res : AVal} (hc : AProc P f args pre post res) (hpre : ∀ p ∈ pre, lkS sl p.1 = some p.2) (hnd : (post.map Prod.fst).Nodup)
    (k : K ⟨lk' ((d, res) :: fl), ov (post ++ sl) (pushS S)⟩) (hf : freeO sl d = true) (hmu : mu f = true := by exact rfl) (hx : opsO fl as.toList = some xs := by exact rfl)
    (hle : ALes xs args := by repeat (first | exact trivial | refine ⟨ALe.refl _, ?_⟩ | refine ⟨.inr (.inl ⟨_, rfl, rfl⟩), ?_⟩)) :
    Stp P mu ops ⟨some d, .call ⟨.value (.func f), as, tys⟩, ty, pos, after, none⟩ ⟨lk' fl, ov sl (pushS S)⟩ K := by
  have hΦ : ∀ p ∈ pre, ov sl (pushS S) p.1 = some p.2 := fun p hp => ov_of (hpre p hp)
  refine stp_call (hc.calls (ov sl (pushS S)) hΦ) rfl hx (by simpa using hle) hf (fun _ _ => rfl) (hc.side hΦ hmu) ?_
  rw [← updL_ov, updL_ovN hnd]; exact k

structure AMadeF (P : Program) (f : FuncId) (args : List AVal) (res : Nm → AVal) (ob : Nm → AObj) (os : List AObj) : Prop where
  calls : ∀ Φ, ACalls P f args Φ res (fun n => (n, ob n) :: famL (.fam n) 0 os)
  args0 : ∀ x ∈ args, nm0 x
  resN : ∀ n m, (res n).at m → m = n
  obN : ∀ n, ∀ x ∈ (ob n).cls, ∀ m, x.at m → ∃ i, i < os.length ∧ m = .fam n i
  os0 : ∀ o ∈ os, o.nm0

theorem fam_ne (n : Nm) (i : Nat) : Nm.fam n i ≠ n := by
  intro h
  have : ∀ n : Nm, SizeOf.sizeOf n < SizeOf.sizeOf (Nm.fam n i) := fun n => by simp; omega
  have := this n
  rw [h] at this
  exact Nat.lt_irrefl _ this

def EndH (P : Program) (fn : Func) (S : Store) (res : Nm → AVal) (ob : (Nat → Nm) → AObj) (os : List AObj) (e : Exit) (st : St) : Prop :=
  (e = .normal ∨ e = .ret) ∧ ∃ T fl l g vs, TOk P T ∧ l.isOut = false ∧ (∀ i : Nat, Nm.isOut (g i) = false ∧ g i ≠ l) ∧ (∀ i j, g i = g j → i = j) ∧ Weak st ⟨lk' fl, ov ((l, ob g) :: famL g 0 os) (pushS S)⟩ ∧ resL T fl fn.results.toList = some vs ∧ flatL vs = true ∧ oneR vs = res l

theorem amadeF {f : FuncId} {fn : Func} {c : Code} {args : List AVal} {res : Nm → AVal} {ob : (Nat → Nm) → AObj} {os : List AObj} (hf : P.funcs[f]? = some fn) (hb : fn.body = some c) (hname : (fn.name == "runtime.NumGoroutine") = false)
    (hm : P.follows .mixedOrders = true) (hok : okC fn.ntmps mu c = true) (hl : args.length ≤ fn.ntmps) (ha : ∀ x ∈ args, nm0 x) (resM : ∀ (φ : Nm → Nm) n, (res n).map φ = res (φ n)) (resN : ∀ n m, (res n).at m → m = n)
    (obM : ∀ (φ : Nm → Nm) (g : Nat → Nm), (ob g).map φ = ob (fun i => φ (g i))) (obN : ∀ g, ∀ x ∈ (ob g).cls, ∀ m, x.at m → ∃ i, i < os.length ∧ m = g i) (os0 : ∀ o ∈ os, o.nm0)
    (h : ∀ S, (∀ n b, S n = some b → b.cl S) → awp P mu fn.ntmps c (EndH P fn S res ob os) ⟨lk' (entryL 0 args), ov [] (pushS S)⟩) : AMadeF P f args res (fun n => ob (.fam n)) os := by
  refine ⟨fun Φ => acalls hf hb hname hm hok hl fun n S _ hn hnf hcl => ?_, ha, resN, fun n x hx m hm => obN (.fam n) x hx m hm, os0⟩
  refine awp_weak _ (entry_weak args S) ?_
  have e1 : args.map (·.map .out) = args := by
    conv => rhs; rw [← List.map_id args]
    exact List.map_congr_left fun x hx => AVal.map_nm0 (ha x hx)
  rw [e1]
  refine awp_post (awp_mono (h S hcl) ?_)
  rintro e st ⟨he, T, fl, l, g, vs, hT, hlo, hgo, hgi, h1, h2, h3, h4⟩
  have hne := old_ne hn hnf
  have hfi : ∀ i j, Nm.fam n i = Nm.fam n j → i = j := fun i j h => by injection h
  obtain ⟨G, hG⟩ : ∃ G : Nm → Nm, G = fun m => match m with | .fam p i => if p = n then g i else l | _ => l := ⟨_, rfl⟩
  have Gn : G n = l := by
    rw [hG]
    cases n with
    | fam p i =>
      simp only
      split
      · rename_i e; exact absurd e.symm (fam_ne p i)
      · rfl
    | _ => rfl
  have Gf : ∀ i, G (.fam n i) = g i := fun i => by rw [hG]; simp
  have Go : ∀ m, Nm.isOut (G m) = false := fun m => by
    rw [hG]
    cases m with
    | fam p i =>
      simp only
      split
      · exact (hgo i).1
      · exact hlo
    | _ => exact hlo
  have isF : ∀ i, (Nm.fam n i).isNew n = true := fun i => by simp [Nm.isNew]
  have hU : ∀ m, updL S ((n, ob (.fam n)) :: famL (.fam n) 0 os) m = if m = n then some (ob (.fam n)) else match lkS (famL (.fam n) 0 os) m with | some o => some o | none => S m := by
    intro m
    rw [updL_lk _ _ _ (by
      rw [List.map_cons, List.nodup_cons]
      refine ⟨fun hm => ?_, famL_nodup hfi os⟩
      rw [famL_fst] at hm
      obtain ⟨i, -, e⟩ := List.mem_map.1 hm
      exact fam_ne n _ e)]
    simp only [lkS]
    split
    · rename_i o e; split at e
      · rename_i q; rw [if_pos q, e]
      · rename_i q; rw [if_neg q, e]
    · rename_i e; split at e
      · cases e
      · rename_i q; rw [if_neg q, e]
  have hfam : ∀ i, lkS (famL (.fam n) 0 os) (.fam n i) = os[i]? := lkS_fam hfi os
  have hnfam : ∀ m, m.isNew n = false → lkS (famL (.fam n) 0 os) m = none := fun m hm => lkS_famN (fun i e => by rw [e, isF] at hm; cases hm) os 0
  have dom : ∀ m, updL S ((n, ob (.fam n)) :: famL (.fam n) 0 os) m ≠ none → m = n ∨ (∃ i, i < os.length ∧ m = .fam n i) ∨ (m.isNew n = false ∧ S m ≠ none) := by
    intro m hm
    rw [hU] at hm
    cases q : m.isNew n with
    | true =>
      rcases Nm.isNew_t q with rfl | ⟨i, rfl⟩
      · exact .inl rfl
      · rw [if_neg (fam_ne n i), hfam] at hm
        cases e : os[i]? with
        | none => rw [e] at hm; exact absurd (hnf i) hm
        | some o => exact .inr (.inl ⟨i, (List.getElem?_eq_some_iff.1 e).1, rfl⟩)
    | false =>
      rw [if_neg (Nm.isNew_ne q), hnfam m q] at hm
      exact .inr (.inr ⟨rfl, hm⟩)
  have φn : (if n.isNew n = true then G n else Nm.out n) = l := by rw [if_pos (Nm.isNew_self n), Gn]
  have φf : ∀ i, (if (Nm.fam n i).isNew n = true then G (.fam n i) else Nm.out (.fam n i)) = g i := fun i => by rw [if_pos (isF i), Gf]
  have φo : ∀ m, m.isNew n = false → (if m.isNew n = true then G m else Nm.out m) = .out m := fun m h => by rw [if_neg (by rw [h]; simp)]
  refine ⟨_, h1, he, _, G, resL_spec hT h2, flatL_spec h3, Go, ⟨fun m m' q1 q2 e => ?_, fun m o hm => ?_, fun m o hm => ?_⟩, fun m hm => ?_, ?_⟩
  · rcases dom m q1 with rfl | ⟨i, -, rfl⟩ | ⟨a, -⟩
    · rcases dom m' q2 with rfl | ⟨j, -, rfl⟩ | ⟨b, -⟩
      · rfl
      · rw [φn, φf] at e; exact absurd e.symm (hgo j).2
      · rw [φn, φo m' b] at e; rw [e] at hlo; cases hlo
    · rcases dom m' q2 with rfl | ⟨j, -, rfl⟩ | ⟨b, -⟩
      · rw [φn, φf] at e; exact absurd e (hgo i).2
      · rw [φf, φf] at e; rw [hgi _ _ e]
      · rw [φf, φo m' b] at e; have := (hgo i).1; rw [e] at this; cases this
    · rcases dom m' q2 with rfl | ⟨j, -, rfl⟩ | ⟨b, -⟩
      · rw [φn, φo m a] at e; rw [← e] at hlo; cases hlo
      · rw [φf, φo m a] at e; have := (hgo j).1; rw [← e] at this; cases this
      · rw [φo m a, φo m' b] at e; injection e
  · have hm0 := dom m (by rw [hm]; simp)
    rw [hU] at hm
    rcases hm0 with rfl | ⟨i, hi, rfl⟩ | ⟨a, -⟩
    · rw [if_pos rfl] at hm
      obtain rfl := Option.some.inj hm
      rw [φn, obM, show (fun i => if (Nm.fam m i).isNew m = true then G (.fam m i) else Nm.out (.fam m i)) = g from funext φf]
      simp [ov, lkS]
    · rw [if_neg (fam_ne n i), hfam, List.getElem?_eq_getElem hi] at hm
      obtain rfl := Option.some.inj hm
      rw [φf, AObj.map_nm0 (os0 _ (List.getElem_mem hi))]
      simp only [ov, lkS, if_neg (hgo i).2, lkS_fam hgi, List.getElem?_eq_getElem hi]
    · rw [if_neg (Nm.isNew_ne a), hnfam m a] at hm
      simp only at hm
      rw [φo m a, map_old hne (hcl m o hm)]
      have h6 : ¬ Nm.out m = l := fun q => by subst q; cases hlo
      have h7 : lkS (famL g 0 os) (.out m) = none := lkS_famN (fun i e => by have := (hgo i).1; rw [← e] at this; cases this) os 0
      show ov _ (pushS S) _ = _
      simp only [ov, lkS, if_neg h6, h7, pushS, hm]
      rfl
  · have hm0 := dom m (by rw [hm]; simp)
    rw [hU] at hm
    have memn : ∀ q, (∃ i, i < os.length ∧ q = .fam n i) → updL S ((n, ob (.fam n)) :: famL (.fam n) 0 os) q ≠ none := by
      rintro q ⟨i, hi, rfl⟩
      rw [hU, if_neg (fam_ne n i), hfam, List.getElem?_eq_getElem hi]; simp
    rcases hm0 with rfl | ⟨i, hi, rfl⟩ | ⟨a, -⟩
    · rw [if_pos rfl] at hm
      obtain rfl := Option.some.inj hm
      exact AObj.cl_cls.2 fun x hx q hq => memn q (obN _ x hx q hq)
    · rw [if_neg (fam_ne n i), hfam, List.getElem?_eq_getElem hi] at hm
      obtain rfl := Option.some.inj hm
      exact AObj.cl_nm0 (os0 _ (List.getElem_mem hi))
    · rw [if_neg (Nm.isNew_ne a), hnfam m a] at hm
      exact cl_mono (fun q hq => updL_dom _ _ _ hq) (hcl m o hm)
  · have := resN n m hm
    subst this
    rw [hU, if_pos rfl]; simp
  · rw [h4, resM, φn]

theorem endH (hT : TOk P T) {fn : Func} {res : Nm → AVal} {ob : (Nat → Nm) → AObj} {os : List AObj} {e : Exit} {fl' : FL} {l : Nm} {g : Nat → Nm} {vs : List AVal} (he : e = .normal ∨ e = .ret) (hS : ∀ n b, S n = some b → b.cl S) (hl : l.isOut = false)
    (hg : ∀ i : Nat, Nm.isOut (g i) = false ∧ g i ≠ l) (hgi : ∀ i j, g i = g j → i = j) (ho : ∀ m, lkS sl (.out m) = none)
    (hs : FrzS (ov sl (pushS S)) (ov ((l, ob g) :: famL g 0 os) (pushS S)) ((l, ob g) :: famL g 0 os)) (hf : FrzF (ov sl (pushS S)) (ov ((l, ob g) :: famL g 0 os) (pushS S)) fl fl')
    (hr : resL T fl' fn.results.toList = some vs) (hfl : flatL vs = true) (h1 : oneR vs = res l) : EndH P fn S res ob os e ⟨lk' fl, ov sl (pushS S)⟩ :=
  ⟨he, T, fl', l, g, vs, hT, hl, hg, hgi, frzO hS (fun m => by
    rw [ho m]
    simp only [lkS]
    rw [if_neg (fun q => by rw [← q] at hl; cases hl)]
    exact lkS_famN (fun i e => by have := (hg i).1; rw [← e] at this; cases this) os 0) hs hf, hr, hfl, h1⟩

theorem s_madeF {f : FuncId} {as : Array Operand} {tys : Array TypeId} {xs args : List AVal} {res : Nm → AVal} {ob : Nm → AObj} {os : List AObj} (hc : AMadeF P f args res ob os)
    (k : K ⟨lk' ((d, res (.loc d)) :: fl), ov ((.loc d, ob (.loc d)) :: (sl ++ famL (.fam (.loc d)) 0 os)) (pushS S)⟩) (hmu : mu f = true := by exact rfl) (hx : opsO fl as.toList = some xs := by exact rfl)
    (hle : ALes xs args := by repeat (first | exact trivial | refine ⟨ALe.refl _, ?_⟩ | refine ⟨.inr (.inl ⟨_, rfl, rfl⟩), ?_⟩)) (hf : freeO sl d = true := by exact fro) :
    Stp P mu ops ⟨some d, .call ⟨.value (.func f), as, tys⟩, ty, pos, after, none⟩ ⟨lk' fl, ov sl (pushS S)⟩ K := by
  have hfi : ∀ i j, Nm.fam (.loc d) i = Nm.fam (.loc d) j → i = j := fun i j h => by injection h
  refine stp_call (hc.calls (ov sl (pushS S))) rfl hx (by simpa using hle) hf (fun _ _ => rfl)
    ⟨fun p hp => ?_, .inr (.inl hmu), fun m hm => .inl ⟨ob (.loc d), by rw [hc.resN _ _ hm]; simp⟩, fun p hp x hx m hm => .inl ?_⟩ ?_
  · rcases List.mem_cons.1 hp with rfl | hp
    · exact .inl rfl
    · obtain ⟨j, -, e⟩ := famL_mem hp
      exact .inr (.inl ⟨_, e⟩)
  · rcases List.mem_cons.1 hp with rfl | hp
    · obtain ⟨i, hi, rfl⟩ := hc.obN _ x hx m hm
      have := famL_in (g := .fam (.loc d)) (s := 0) (List.getElem?_eq_getElem hi)
      rw [Nat.zero_add] at this
      exact ⟨_, List.mem_cons_of_mem _ this⟩
    · obtain ⟨j, hj, -⟩ := famL_mem hp
      exact absurd hm (hc.os0 _ (List.mem_of_getElem? hj) x hx m)
  · rw [← updL_ov, updL_ovN (by
      rw [List.map_cons, List.nodup_cons]
      refine ⟨fun hm => ?_, famL_nodup hfi os⟩
      rw [famL_fst] at hm
      obtain ⟨i, -, e⟩ := List.mem_map.1 hm
      exact fam_ne _ _ e)]
    rw [show ov (((Nm.loc d, ob (.loc d)) :: famL (.fam (.loc d)) 0 os) ++ sl) (pushS S) = ov ((.loc d, ob (.loc d)) :: (sl ++ famL (.fam (.loc d)) 0 os)) (pushS S) from ov_congr fun m => ?_]
    · exact k
    · simp only [List.cons_append, lkS, lkS_app]
      split
      · rfl
      · by_cases q : ∃ i, m = Nm.fam (.loc d) i
        · obtain ⟨i, rfl⟩ := q
          have : lkS sl (.fam (.loc d) i) = none := by
            have := freeO_fam (S := fun _ => none) i hf
            simp only [ov] at this
            cases e : lkS sl (.fam (.loc d) i) with
            | none => rfl
            | some o => rw [e] at this; cases this
          rw [this]
          simp only
          cases lkS (famL (Nm.fam (.loc d)) 0 os) (.fam (.loc d) i) <;> rfl
        · have : lkS (famL (Nm.fam (.loc d)) 0 os) m = none := lkS_famN (fun i e => q ⟨i, e⟩) os 0
          rw [this]
          simp only
          cases lkS sl m <;> rfl

/-! ### Loads, and the list as it stands -/
theorem zf1 (hT : TOk P T) {t : TypeId} {x : Operand} {m : Nm} {j n : Nat} {ty' : TypeId} {g : Nat → Nm} (k : K ⟨lk' ((d, .c (.ptr (g j) 0)) :: fl), ov sl S⟩) (hm : lkS sl m = some (.row ty' (ptrsG g n)) ∨ lkS sl m = some (.cells ty' (ptrsG g n))) (hj : j < n)
    (hx : opO fl x = some (.c (.ptr m j)) := by exact rfl) (ha : agT T t = some false := by exact rfl) : Stp P mu ops ⟨some d, .load t x, ty, pos, after, none⟩ ⟨lk' fl, ov sl S⟩ K := by
  refine ⟨_, ⟨.c (.ptr (g j) 0), ov sl S, ⟨?_, rfl⟩, rfl⟩, by rw [putF_lk]; exact k⟩
  rw [opO_look hx]
  rcases hm with hm | hm
  · exact ⟨_, ov_of hm, .inr ⟨hT.ag ha, _, ptrsG_get hj, rfl⟩⟩
  · exact ⟨_, ov_of hm, .inr ⟨hT.ag ha, _, ptrsG_get hj, rfl⟩⟩
theorem zf2 (hT : TOk P T) {t : TypeId} {x : Operand} {m : Nm} {j n : Nat} {ty' : TypeId} {g : Nat → Nm} (k : K ⟨lk' ((d, .c (.ptr (g j) 0)) :: fl), ov sl S⟩) (hm : lkS sl m = some (.acc ty' 1 ((ptrsG g n).map fun c => [c]))) (hj : j < n)
    (hx : opO fl x = some (.accp m j) := by exact rfl) (ha : agT T t = some false := by exact rfl) : Stp P mu ops ⟨some d, .load t x, ty, pos, after, none⟩ ⟨lk' fl, ov sl S⟩ K :=
  za2 hT (i := j) (j := 0) (sz := 1) k ⟨_, by rw [List.getElem?_map, ptrsG_get hj]; rfl, rfl⟩ (by omega) hx ha hm

end
section
variable {A B : Store}
theorem leaves_frz {ls : List Leaf} {g : Nm} {ty : TypeId} (hm : A g = some (.cells ty (ls.map Leaf.cell))) (hb : B g = none) : FrzC0 A B (.ptr g 0) (.pim ls) := by
  refine .ptr (fun j => ((ls[j]?).map Leaf.cell).getD .junk) (.inl hm) hb (fun j l hj => by simp [hj]) fun j l hj => ?_
  simp only [hj, Option.map_some, Option.getD_some]
  exact .keep fun q hq => absurd hq (l.cell_nm q)
theorem kSeqP {m : Nm} {len cm : Nat} {ty ty' : TypeId} {g : Nat → Nm} {n : Nat} {rs : List (List Leaf)} (hm : A m = some (.row ty (ptrsG g n)) ∨ A m = some (.cells ty (ptrsG g n))) (hb : B m = none) (hl : rs.length = len) (hn : len ≤ n)
    (h : ∀ i ls, rs[i]? = some ls → A (g i) = some (.cells ty' (ls.map Leaf.cell)) ∧ B (g i) = none) : FrzV A B (.c (.win m 0 len cm)) (.c (.seq 1 (rs.map fun ls => [.pim ls]))) := by
  refine .c (.base (.row (fun i _ => .ptr (g i) 0) (ty := ty) (cs := ptrsG g n) (hm.elim .inr .inl) hb (by simpa using hl) (fun c hc => by obtain ⟨ls, -, rfl⟩ := List.mem_map.1 hc; rfl) (fun i c j l hi hj => ?_) fun i c j l hi hj => ?_))
  · rw [List.getElem?_map, Option.map_eq_some_iff] at hi
    obtain ⟨ls, h1, rfl⟩ := hi
    have hlt := (List.getElem?_eq_some_iff.1 h1).1
    match j, hj with
    | 0, _ => rw [show 0 + (i * 1 + 0) = i by omega]; exact ptrsG_get (by omega)
  · rw [List.getElem?_map, Option.map_eq_some_iff] at hi
    obtain ⟨ls, h1, rfl⟩ := hi
    match j, hj with
    | 0, hj =>
      simp only [List.getElem?_cons_zero, Option.some.injEq] at hj
      subst hj
      exact leaves_frz (h i ls h1).1 (h i ls h1).2
theorem kAccP {m : Nm} {len : Nat} {ty ty' : TypeId} {g : Nat → Nm} {n : Nat} {rs : List (List Leaf)} (hm : A m = some (.acc ty 1 ((ptrsG g n).map fun c => [c]))) (hb : B m = none) (hl : rs.length = n)
    (h : ∀ i ls, rs[i]? = some ls → A (g i) = some (.cells ty' (ls.map Leaf.cell)) ∧ B (g i) = none) : FrzV A B (.accv m len) (.c (.seq 1 (rs.map fun ls => [.pim ls]))) := by
  refine .acc hm hb ⟨by simp [ptrsG_len, hl], fun i c c' hi hi' => ?_⟩
  simp only [List.getElem?_map, Option.map_eq_some_iff] at hi hi'
  obtain ⟨c0, h1, rfl⟩ := hi
  obtain ⟨c1, ⟨ls, h2, rfl⟩, rfl⟩ := hi'
  refine ⟨rfl, fun j x y hx hy => ?_⟩
  have hlt := (List.getElem?_eq_some_iff.1 h2).1
  match j, hx, hy with
  | 0, hx, hy =>
    simp only [List.getElem?_cons_zero, List.map_cons, Option.some.injEq] at hx hy
    subst hx hy
    rw [ptrsG_get (by omega)] at h1
    obtain rfl := Option.some.inj h1
    exact leaves_frz (h i ls h2).1 (h i ls h2).2
end
end Go.Abs

/-
  More steps of words.
-/
namespace Go.Abs
open Go
theorem kQ {A B : Store} {sz : Nat} {L : List (List Leaf)} : FrzV A B (.c (.seq sz L)) (.c (.seq sz L)) := .c (.base (.keep (fun _ h => h.elim)))
theorem kQc {A B : Store} {sz n : Nat} {L : List (List Leaf)} : FrzV A B (.c (.seqc sz L n)) (.c (.seqc sz L n)) := .c (.base (.keep (fun _ h => h.elim)))
theorem kIc {A B : Store} {k : IntKind} {n : Nat} {L : List Int} : FrzV A B (.c (.intc k L n)) (.c (.intc k L n)) := .c (.base (.keep (fun _ h => h.elim)))
theorem kFn0 {A B : Store} {f : FuncId} : FrzV A B (.fn f []) (.fn f []) := kFn (fun x hx => by cases hx)
section
variable {P : Program} {T : TT} {mu : FuncId → Bool} {N : Nat} {ops : Array Oper} {fl : FL} {S' : Store} {K : St → Prop}
  {d : Nat} {ty : TypeId} {pos : String} {after : Array Edge} {x y : Operand} {t0 t1 : TypeId} {a b : Int} {k' : IntKind}
theorem stp_andN (m n : Nat) (hx : opO fl x = some (ivl .u64 a)) (hy : opO fl y = some (ivl .u64 b)) (ha : a = m) (hb : b = n) (hm : m < 18446744073709551616) (hn : n < 18446744073709551616) (kk : K ⟨lk' ((d, ivl .u64 ((m &&& n : Nat) : Int)) :: fl), S'⟩) :
    Stp P mu ops ⟨some d, .binOp .and t0 x y t1, ty, pos, after, none⟩ ⟨lk' fl, S'⟩ K := by
  subst ha; subst hb
  refine stp_of hx hy ?_ kk
  simp only [binE, isShift]
  refine ⟨trivial, ?_⟩
  rw [show intE .and .u64 (m : Int) n _ = (_ = ivl .u64 (IntKind.u64.wrap (BitVec.ofInt IntKind.u64.bits (m : Int) &&& BitVec.ofInt IntKind.u64.bits n).toNat)) from rfl]
  rw [wrap_u64, BitVec.toNat_and, bv_nat, bv_nat, Nat.mod_eq_of_lt hm, Nat.mod_eq_of_lt hn, Nat.mod_eq_of_lt (show m &&& n < 2 ^ 64 from Nat.and_lt_two_pow _ hn)]
end
section
variable {P : Program} {T : TT} {mu : FuncId → Bool} {N : Nat} {ops : Array Oper} {fl : FL} {sl : SL} {S : Store} {K : St → Prop}
  {d : Nat} {ty : TypeId} {pos : String} {after : Array Edge}
theorem s_callG {g : Operand} {f : FuncId} {caps : List Cell} {as : Array Operand} {tys : Array TypeId} {xs args : List AVal} {res : AVal} (hc : AFun P f args res) (k : K ⟨lk' ((d, res) :: fl), ov sl (pushS S)⟩) (hg : opO fl g = some (.fn f caps) := by exact rfl)
    (hx : opsO fl as.toList = some xs := by exact rfl) (hle : ALes (xs ++ caps.map .c) args := by repeat (first | exact trivial | refine ⟨ALe.refl _, ?_⟩ | refine ⟨.inr (.inl ⟨_, rfl, rfl⟩), ?_⟩)) (hf : freeO sl d = true := by exact fro) :
    Stp P mu ops ⟨some d, .call ⟨.value g, as, tys⟩, ty, pos, after, none⟩ ⟨lk' fl, ov sl (pushS S)⟩ K :=
  stp_call (hc.calls (ov sl (pushS S))) hg hx hle hf (fun _ _ => rfl) ⟨by simp, .inl rfl, fun m hm => absurd hm (hc.res0 m), by simp⟩ k
end
end Go.Abs

/-
  Families renamed; functions that read families and hand out one.
-/
namespace Go.Abs
open Go

/-! ### Renamed -/
def RenV (sl : SL) (m0 m1 : Nm) (g1 : Nat → Nm) (u v : AVal) : Prop :=
  (∃ off len c, v = .c (.win m1 off len c) ∧ u = .c (.win m0 off len c)) ∨ (∃ k, v = .accv m1 k ∧ u = .accv m0 k) ∨
  (u = v ∧ ∀ r, v.at r → lkS sl r ≠ none ∧ r ≠ m1 ∧ ∀ i, r ≠ g1 i)
def RenF (sl : SL) (m0 m1 : Nm) (g1 : Nat → Nm) (fl : FL) : FL → Prop
  | [] => True
  | (t, v) :: r => (∃ u, lkO fl t = some u ∧ RenV sl m0 m1 g1 u v) ∧ RenF sl m0 m1 g1 fl r
theorem RenF.of {sl : SL} {m0 m1 : Nm} {g1 : Nat → Nm} {fl : FL} : ∀ {fl' : FL}, RenF sl m0 m1 g1 fl fl' → ∀ t v, lkO fl' t = some v → ∃ u, lkO fl t = some u ∧ RenV sl m0 m1 g1 u v
  | [], _, t, v, h => by cases h
  | (s, w) :: r, hf, t, v, h => by
    simp only [lkO] at h
    split at h
    · rename_i e
      have e := Nat.eq_of_beq_eq_true e
      subst e
      obtain rfl := Option.some.inj h
      exact hf.1
    · exact RenF.of hf.2 t v h
theorem rK {sl : SL} {m0 m1 : Nm} {g1 : Nat → Nm} {v : AVal} (h : ∀ r, ¬ v.at r := by exact fun _ h => h.elim) : RenV sl m0 m1 g1 v v := .inr (.inr ⟨rfl, fun r hr => absurd hr (h r)⟩)
theorem rW {sl : SL} {m0 m1 : Nm} {g1 : Nat → Nm} {off len c : Nat} : RenV sl m0 m1 g1 (.c (.win m0 off len c)) (.c (.win m1 off len c)) := .inl ⟨_, _, _, rfl, rfl⟩
theorem rA {sl : SL} {m0 m1 : Nm} {g1 : Nat → Nm} {k : Nat} : RenV sl m0 m1 g1 (.accv m0 k) (.accv m1 k) := .inr (.inl ⟨_, rfl, rfl⟩)

theorem lkS_grp {m1 : Nm} {ob : AObj} {g : Nat → Nm} {os : List AObj} (hg : ∀ i j, g i = g j → i = j) {m : Nm} {o : AObj} (h : lkS ((m1, ob) :: famL g 0 os) m = some o) : (m = m1 ∧ o = ob) ∨ ∃ i, m = g i ∧ os[i]? = some o := by
  simp only [lkS] at h
  split at h
  · rename_i e; exact .inl ⟨e, (Option.some.inj h).symm⟩
  · by_cases q : ∃ i, m = g i
    · obtain ⟨i, rfl⟩ := q
      rw [lkS_fam hg] at h
      exact .inr ⟨i, rfl, h⟩
    · rw [lkS_famN (fun i e => q ⟨i, e⟩)] at h; cases h

open Classical in
theorem Weak.renG {fl fl' : FL} {A sl : SL} {S : Store} {m0 m1 : Nm} {g0 g1 : Nat → Nm} {ob0 ob1 : AObj} {os : List AObj}
    (h0 : lkS A m0 = some ob0) (hos : ∀ i o, os[i]? = some o → lkS A (g0 i) = some o ∧ o.nm0) (hob : ∀ φ : Nm → Nm, (∀ i, i < os.length → φ (g1 i) = g0 i) → ob1.map φ = ob0)
    (hobN : ∀ x ∈ ob1.cls, ∀ r, x.at r → ∃ i, i < os.length ∧ r = g1 i)
    (hg1 : ∀ i j, g1 i = g1 j → i = j) (hgm : ∀ i, g1 i ≠ m1) (hg0 : ∀ i j, i < os.length → j < os.length → g0 i = g0 j → i = j) (hgm0 : ∀ i, i < os.length → g0 i ≠ m0)
    (hm1 : m1.isOut = false) (hgo : ∀ i, (g1 i).isOut = false) (hA : ∀ m, lkS A m ≠ none → m.isOut = false ∧ lkS sl m = none) (hsl : ∀ n o, lkS sl n = some o → o.nm0)
    (hfl : RenF sl m0 m1 g1 fl fl') :
    Weak ⟨lk' fl, ov (A ++ sl) (pushS S)⟩ ⟨lk' fl', ov (((m1, ob1) :: famL g1 0 os) ++ sl) (pushS S)⟩ := fun w ρ tm hs => by
  have hcl := hs.env.cl
  obtain ⟨φ, hφ⟩ : ∃ φ : Nm → Nm, φ = fun m => if m = m1 then m0 else if h : ∃ i, i < os.length ∧ m = g1 i then g0 (Classical.choose h) else m := ⟨_, rfl⟩
  have φ1 : φ m1 = m0 := by rw [hφ]; simp
  have φg : ∀ i, i < os.length → φ (g1 i) = g0 i := fun i hi => by
    rw [hφ]
    have hx : ∃ j, j < os.length ∧ g1 i = g1 j := ⟨i, hi, rfl⟩
    simp only [if_neg (hgm i), dif_pos hx]
    congr 1
    exact (hg1 _ _ (Classical.choose_spec hx).2).symm
  have φn : ∀ m, m ≠ m1 → (∀ i, i < os.length → m ≠ g1 i) → φ m = m := fun m h1 h2 => by
    rw [hφ]
    simp only [if_neg h1]
    rw [dif_neg (fun ⟨i, hi, e⟩ => h2 i hi e)]
  have φo : ∀ m, φ (.out m) = .out m := fun m => φn _ (fun e => by rw [← e] at hm1; cases hm1) (fun i _ e => by have := hgo i; rw [← e] at this; cases this)
  -- the new store
  obtain ⟨G, hG⟩ : ∃ G, G = ((m1, ob1) :: famL g1 0 os) := ⟨_, rfl⟩
  have Gi : ∀ i o, os[i]? = some o → lkS G (g1 i) = some o := fun i o h => by
    rw [hG]; simp only [lkS, if_neg (hgm i)]; rw [lkS_fam hg1]; exact h
  have Gs : ∀ m o, lkS G m = some o → (m = m1 ∧ o = ob1) ∨ ∃ i, i < os.length ∧ m = g1 i ∧ os[i]? = some o := fun m o h => by
    rw [hG] at h
    rcases lkS_grp hg1 h with h | ⟨i, h1, h2⟩
    · exact .inl h
    · exact .inr ⟨i, (List.getElem?_eq_some_iff.1 h2).1, h1, h2⟩
  have Gn : ∀ m, lkS G m = none → m ≠ m1 ∧ ∀ i, i < os.length → m ≠ g1 i := fun m h => by
    refine ⟨fun e => ?_, fun i hi e => ?_⟩
    · subst e; rw [hG] at h; simp [lkS] at h
    · subst e; rw [Gi i _ (List.getElem?_eq_getElem hi)] at h; cases h
  have Gout : ∀ m, lkS G (.out m) = none := fun m => by
    cases e : lkS G (.out m) with
    | none => rfl
    | some o =>
      rcases Gs _ _ e with ⟨e, -⟩ | ⟨i, -, e, -⟩
      · rw [← e] at hm1; cases hm1
      · have := hgo i; rw [← e] at this; cases this
  have F1 : ∀ m o, lkS G m = some o → ov (G ++ sl) (pushS S) m = some o := fun m o h => by simp only [ov, lkS_app, h]
  have F2 : ∀ m, lkS G m = none → ov (G ++ sl) (pushS S) m = ov sl (pushS S) m := fun m h => by simp only [ov, lkS_app, h]
  have A1 : ∀ m o, lkS A m = some o → ov (A ++ sl) (pushS S) m = some o := fun m o h => by simp only [ov, lkS_app, h]
  have A2 : ∀ m, lkS A m = none → ov (A ++ sl) (pushS S) m = ov sl (pushS S) m := fun m h => by simp only [ov, lkS_app, h]
  have ANone : ∀ m, lkS A m ≠ none → ov sl (pushS S) m = none := fun m h => by
    obtain ⟨h1, h2⟩ := hA m h
    simp only [ov, h2]
    cases m <;> first | rfl | cases h1
  -- what is called as before
  have Fk : ∀ m o, lkS G m = none → ov (G ++ sl) (pushS S) m = some o → ov (A ++ sl) (pushS S) m = some o ∧ φ m = m ∧ lkS A m = none := fun m o h1 h2 => by
    rw [F2 m h1] at h2
    have h3 : lkS A m = none := Classical.byContradiction fun h => by rw [ANone m h] at h2; cases h2
    exact ⟨by rw [A2 m h3]; exact h2, φn m (Gn m h1).1 (Gn m h1).2, h3⟩
  have Ak0 : lkS A m0 ≠ none := by rw [h0]; simp
  have Akg : ∀ i, i < os.length → lkS A (g0 i) ≠ none := fun i hi => by rw [(hos i _ (List.getElem?_eq_getElem hi)).1]; simp
  have dom1 : ov (G ++ sl) (pushS S) m1 ≠ none := by rw [F1 m1 ob1 (by rw [hG]; simp [lkS])]; simp
  have domg : ∀ i, i < os.length → ov (G ++ sl) (pushS S) (g1 i) ≠ none := fun i hi => by rw [F1 _ _ (Gi i _ (List.getElem?_eq_getElem hi))]; simp
  have objs : ∀ m o, lkS G m = none → ov (G ++ sl) (pushS S) m = some o → o.map φ = o ∧ o.cl (ov (G ++ sl) (pushS S)) := fun m o h1 h2 => by
    have h3 := (Fk m o h1 h2).1
    rw [F2 m h1] at h2
    cases e : lkS sl m with
    | some o2 =>
      simp only [ov, e] at h2
      obtain rfl := Option.some.inj h2
      exact ⟨AObj.map_nm0 (hsl m _ e), AObj.cl_nm0 (hsl m _ e)⟩
    | none =>
      simp only [ov, e] at h2
      obtain ⟨q, b, rfl, hb, rfl⟩ := pushS_some h2
      have hat : ∀ x ∈ (b.map .out).cls, ∀ r, x.at r → ∃ n, r = .out n := fun x hx r hr => by
        obtain ⟨z, hz, rfl⟩ := cls_map hx
        obtain ⟨n, hn, rfl⟩ := Cell.map_at hr
        exact ⟨n, rfl⟩
      refine ⟨?_, AObj.cl_cls.2 fun x hx r hr => ?_⟩
      · rw [AObj.map_congr (ψ := id) fun x hx r hr => by obtain ⟨n, rfl⟩ := hat x hx r hr; exact φo n, AObj.map_id]
      · obtain ⟨n, rfl⟩ := hat x hx r hr
        have h4 := AObj.cl_cls.1 (hcl _ _ h3) x hx _ hr
        have h5 : lkS A (.out n) = none := Classical.byContradiction fun h => by have := (hA _ h).1; cases this
        rw [F2 _ (Gout n), ← A2 _ h5]; exact h4
  rw [← hG]
  refine (Weak.back (st := ⟨lk' fl, ov (A ++ sl) (pushS S)⟩) (F := ⟨lk' fl', ov (G ++ sl) (pushS S)⟩) φ ⟨fun m m' h1 h2 e => ?_, fun m o hm => ?_, fun m o hm => ?_⟩ φo (fun m h1 h2 => ?_) (fun m => ?_) (fun t => ?_)) w ρ tm hs
  · -- no two names for one
    have cls : ∀ m, ov (G ++ sl) (pushS S) m ≠ none → (m = m1 ∧ φ m = m0) ∨ (∃ i, i < os.length ∧ m = g1 i ∧ φ m = g0 i) ∨ (φ m = m ∧ lkS A m = none) := fun m h => by
      cases e : lkS G m with
      | some o =>
        rcases Gs m o e with ⟨rfl, -⟩ | ⟨i, hi, rfl, -⟩
        · exact .inl ⟨rfl, φ1⟩
        · exact .inr (.inl ⟨i, hi, rfl, φg i hi⟩)
      | none =>
        cases e2 : ov (G ++ sl) (pushS S) m with
        | none => exact absurd e2 h
        | some o => have := Fk m o e e2; exact .inr (.inr this.2)
    rcases cls m h1 with ⟨rfl, q⟩ | ⟨i, hi, rfl, q⟩ | ⟨q, q2⟩ <;> rcases cls m' h2 with ⟨rfl, r⟩ | ⟨j, hj, rfl, r⟩ | ⟨r, r2⟩ <;> have e := (q.symm.trans e).trans r
    · rfl
    · exact absurd e.symm (hgm0 j hj)
    · rw [e] at Ak0; exact absurd r2 Ak0
    · exact absurd e (hgm0 i hi)
    · rw [hg0 i j hi hj e]
    · have := Akg i hi; rw [e] at this; exact absurd r2 this
    · rw [← e] at Ak0; exact absurd q2 Ak0
    · have := Akg j hj; rw [← e] at this; exact absurd q2 this
    · exact e
  · show ov (A ++ sl) (pushS S) (φ m) = some (o.map φ)
    have hm : ov (G ++ sl) (pushS S) m = some o := hm
    cases e : lkS G m with
    | some o' =>
      have := F1 m o' e
      rw [hm] at this
      obtain rfl := Option.some.inj this
      rcases Gs m o e with ⟨rfl, rfl⟩ | ⟨i, hi, rfl, h3⟩
      · rw [φ1, hob φ φg]; exact A1 _ _ h0
      · rw [φg i hi, AObj.map_nm0 (hos i o h3).2]; exact A1 _ _ (hos i o h3).1
    | none =>
      obtain ⟨h1, h2, -⟩ := Fk m o e hm
      rw [h2, (objs m o e hm).1]; exact h1
  · have hm : ov (G ++ sl) (pushS S) m = some o := hm
    cases e : lkS G m with
    | some o' =>
      have := F1 m o' e
      rw [hm] at this
      obtain rfl := Option.some.inj this
      rcases Gs m o e with ⟨rfl, rfl⟩ | ⟨i, hi, rfl, h3⟩
      · refine AObj.cl_cls.2 fun x hx r hr => ?_
        obtain ⟨i, hi, rfl⟩ := hobN x hx r hr
        exact domg i hi
      · exact AObj.cl_nm0 (hos i o h3).2
    | none => exact (objs m o e hm).2
  · cases e : lkS G m with
    | some o' =>
      rcases Gs m o' e with ⟨rfl, -⟩ | ⟨i, hi, rfl, -⟩
      · rw [φ1] at h2; have := (hA m0 Ak0).1; rw [h2] at this; cases this
      · rw [φg i hi] at h2; have := (hA _ (Akg i hi)).1; rw [h2] at this; cases this
    | none => exact φn m (Gn m e).1 (Gn m e).2
  · show ov (G ++ sl) (pushS S) (.out m) = ov (A ++ sl) (pushS S) (.out m)
    have h5 : lkS A (.out m) = none := Classical.byContradiction fun h => by have := (hA _ h).1; cases this
    rw [F2 _ (Gout m), A2 _ h5]
  · show lk' fl' t = .c .junk ∨ ((lk' fl' t).cl (ov (G ++ sl) (pushS S)) ∧ lk' fl t = (lk' fl' t).map φ)
    simp only [lk']
    cases e : lkO fl' t with
    | none => exact .inl rfl
    | some v =>
      obtain ⟨u, h1, h2⟩ := hfl.of t v e
      rw [h1]
      simp only [Option.getD_some]
      refine .inr ?_
      rcases h2 with ⟨off, len, c, rfl, rfl⟩ | ⟨k, rfl, rfl⟩ | ⟨rfl, h2⟩
      · exact ⟨fun r hr => by have : m1 = r := hr; subst this; exact dom1, by simp only [AVal.map, AVal.map1, Cell.map, φ1]⟩
      · exact ⟨fun r hr => by have : m1 = r := hr; subst this; exact dom1, by simp only [AVal.map, AVal.map1, φ1]⟩
      · refine ⟨fun r hr => ?_, ?_⟩
        · obtain ⟨h3, h4, h5⟩ := h2 r hr
          have h6 : lkS G r = none := by
            cases q : lkS G r with
            | none => rfl
            | some o =>
              rcases Gs r o q with ⟨q, -⟩ | ⟨i, -, q, -⟩
              · exact absurd q h4
              · exact absurd q (h5 i)
          rw [F2 r h6]
          simp only [ov]
          cases q : lkS sl r with
          | none => exact absurd q h3
          | some o => simp
        · have : u.map φ = u := by
            rw [AVal.map_congr (ψ := id) fun r hr => φn r (h2 r hr).2.1 fun i _ => (h2 r hr).2.2 i, AVal.map_id]
          exact this.symm
end Go.Abs

/-
  Functions that read families and hand out one.
-/
namespace Go.Abs
open Go
section
variable {P : Program} {mu : FuncId → Bool}
structure AReadF (P : Program) (f : FuncId) (args : List AVal) (pre : SL) (res : Nm → AVal) (ob : Nm → AObj) (os : List AObj) : Prop where
  calls : ∀ Φ, (∀ p ∈ pre, Φ p.1 = some p.2) → ACalls P f args Φ res (fun n => (n, ob n) :: famL (.fam n) 0 os)
  resN : ∀ n m, (res n).at m → m = n
  obN : ∀ n, ∀ x ∈ (ob n).cls, ∀ m, x.at m → ∃ i, i < os.length ∧ m = .fam n i
  os0 : ∀ o ∈ os, o.nm0

variable {T : TT} {ops : Array Oper} {fl : FL} {sl : SL} {S : Store} {K : St → Prop} {d : Nat} {ty : TypeId} {pos : String} {after : Array Edge}

end
end Go.Abs

/-
  Lists of anything built and appended to.
-/
namespace Go.Abs
open Go

def plS (sz n : Nat) : List (Nat × Nat) := (List.range n).map fun i => (i * sz, sz)
theorem plS_get {sz n i : Nat} {q : Nat × Nat} (h : (plS sz n)[i]? = some q) : some (i * sz, sz) = some q := by
  unfold plS at h
  rw [List.getElem?_map, Option.map_eq_some_iff] at h
  obtain ⟨j, h1, rfl⟩ := h
  rw [List.getElem?_range (by have := (List.getElem?_eq_some_iff.1 h1).1; simpa using this)] at h1
  obtain rfl := Option.some.inj h1
  rfl

section
variable {P : Program} {T : TT} {mu : FuncId → Bool} {N : Nat} {ops : Array Oper} {fl : FL} {sl : SL} {S : Store} {K : St → Prop}
  {d : Nat} {ty : TypeId} {pos : String} {after : Array Edge}

theorem s_bld {t e : TypeId} {n sz : Nat} {ps : Array (Nat × Operand)} {z out : List Cell} (hT : TOk P T) (kk : K ⟨lk' ((d, .c (.win (.loc d) 0 n n)) :: fl), ov ((.loc d, .cells e out) :: sl) (pushS S)⟩)
    (ht : undT T t = some (.slice e) := by exact rfl) (hc : celT T e = sz + 1 := by exact rfl) (hz : zerF T e = some z := by exact rfl) (hzl : Nat.beq z.length (sz + 1) = true := by exact rfl) (hf : fillF fl (plS (sz + 1) n) (rep n z) ps.toList = some out := by exact rfl)
    (hsmall : Nat.ble (n * (sz + 1)) 10000 = true := by exact rfl) (hfr : freeO sl d = true := by exact fro) :
    Stp P mu ops ⟨some d, .buildSlice t n ps, ty, pos, after, none⟩ ⟨lk' fl, ov sl (pushS S)⟩ K := by
  have ht := hT.und ht
  have hc := hT.cel hc (by simp)
  obtain ⟨h1, h2⟩ := zerF_spec hT hz
  have hs := Nat.le_of_ble_eq_true hsmall
  refine ⟨_, ⟨_, _, ⟨d, .cells e out, rfl, freeO_spec hfr, ⟨e, z, out, ht, by omega, by rw [hc]; omega, h1, by rw [hc]; exact Nat.eq_of_beq_eq_true hzl, h2, ?_, .inl ⟨rfl, .inl rfl⟩⟩, rfl⟩, rfl⟩, by rw [putF_lk, upd_ov]; exact kk⟩
  exact fillF_spec (fun i q hq => by rw [hc]; exact plS_get hq) hf
theorem s_bldA {t e : TypeId} {n sz : Nat} {ps : Array (Nat × Operand)} {z : List Cell} {R : List (List Cell)} (hT : TOk P T) (kk : K ⟨lk' ((d, .accv (.loc d) n) :: fl), ov ((.loc d, .acc e (sz + 1) R) :: sl) (pushS S)⟩)
    (hf : fillF fl (plS (sz + 1) n) (rep n z) ps.toList = some R.flatten := by exact rfl) (hR : R.length = n := by exact rfl) (hR2 : ∀ c ∈ R, c.length = sz + 1 := by simp)
    (ht : undT T t = some (.slice e) := by exact rfl) (hc : celT T e = sz + 1 := by exact rfl) (hz : zerF T e = some z := by exact rfl) (hzl : Nat.beq z.length (sz + 1) = true := by exact rfl)
    (hsmall : Nat.ble (n * (sz + 1)) 10000 = true := by exact rfl) (hfr : freeO sl d = true := by exact fro) :
    Stp P mu ops ⟨some d, .buildSlice t n ps, ty, pos, after, none⟩ ⟨lk' fl, ov sl (pushS S)⟩ K := by
  have ht := hT.und ht
  have hc := hT.cel hc (by simp)
  obtain ⟨h1, h2⟩ := zerF_spec hT hz
  have hs := Nat.le_of_ble_eq_true hsmall
  refine ⟨_, ⟨_, _, ⟨d, .acc e (sz + 1) R, rfl, freeO_spec hfr, ⟨e, z, R.flatten, ht, by omega, by rw [hc]; omega, h1, by rw [hc]; exact Nat.eq_of_beq_eq_true hzl, h2, ?_, .inr ⟨R, rfl, hR, by rw [hc]; exact hR2, rfl, by rw [hc]⟩⟩, rfl⟩, rfl⟩, by rw [putF_lk, upd_ov]; exact kk⟩
  exact fillF_spec (fun i q hq => by rw [hc]; exact plS_get hq) hf

theorem s_appX {s x : Operand} {tys : Array TypeId} {t e : TypeId} {as : Array Operand} {m : Nm} {sz n0 nb : Nat} {L Y : List (List Cell)} {xv : AVal} {z : Value} (hT : TOk P T) (hY : srcR (ov sl S) xv (sz + 1) Y)
    (hl : (L.length + Y.length) * nb ≤ 140737488355328 ∧ L.length + Y.length ≤ maxLen) (kk : K ⟨lk' ((d, .accv m (n0 + Y.length)) :: killL m fl), ov ((m, .acc e (sz + 1) (L ++ Y)) :: sl) S⟩)
    (ha : as.toList = [s, x] := by exact rfl) (ht : tys.toList = [t, t] := by exact rfl) (hu : undT T t = some (.slice e) := by exact rfl) (hc1 : celT T e = sz + 1 := by exact rfl)
    (hz : zerT T e = some z := by exact rfl) (hzl : zlen z (sz + 1) = true := by exact rfl) (hs : opO fl s = some (.accv m n0) := by exact rfl) (hx : opO fl x = some xv := by exact rfl) (hm : lkS sl m = some (.acc e (sz + 1) L) := by exact lks)
    (hn : L.length = n0 := by first | rfl | (simp [ptrsG_len]; done) | (simp [ptrsG_len]; omega))
    (ho : m.isOut = false := by exact rfl) (hb : bytT T e = some nb := by exact rfl) :
    Stp P mu ops ⟨some d, .call ⟨.builtin .append, as, tys⟩, ty, pos, after, none⟩ ⟨lk' fl, ov sl S⟩ K := stp_appG hT ha ht hu hc1 (Nat.succ_pos _) hz hzl hs hx hm hn ho hY hb hl kk
theorem srcR_one {m : Nm} {e : TypeId} {c : List Cell} {cm : Nat} {sz : Nat} (hm : lkS sl m = some (.cells e c)) (hc : c.length = sz) : srcR (ov sl S) (.c (.win m 0 1 cm)) sz [c] :=
  ⟨by simp [hc], rfl, e, .inr ⟨c, .inl (ov_of hm), by omega, by simp [← hc]⟩⟩
theorem srcR_win {m : Nm} {e : TypeId} {cs : List Cell} {len cm sz : Nat} {Y : List (List Cell)} (hm : lkS sl m = some (.cells e cs) ∨ lkS sl m = some (.row e cs)) (hY : ∀ c ∈ Y, c.length = sz) (hl : Y.length = len) (h1 : len * sz ≤ cs.length) (h2 : cs.take (len * sz) = Y.flatten) : srcR (ov sl S) (.c (.win m 0 len cm)) sz Y :=
  ⟨hY, hl, e, .inr ⟨cs, hm.imp ov_of ov_of, by omega, by rw [List.drop_zero]; exact h2⟩⟩
end
end Go.Abs

/-
  Lists of pointers, gathered.
-/
namespace Go.Abs
open Go

abbrev accP (ty : TypeId) (g : Nat → Nm) (n : Nat) : AObj := .acc ty 1 ((ptrsG g n).map fun c => [c])
abbrev cellP (ty : TypeId) (g : Nat → Nm) (n : Nat) : AObj := .cells ty (ptrsG g n)
theorem ptrsG_succ (g : Nat → Nm) (n : Nat) : ptrsG g (n + 1) = ptrsG g n ++ [.ptr (g n) 0] := by simp [ptrsG, List.range_succ]
theorem ptrsG_congr {g h : Nat → Nm} {n : Nat} (e : ∀ i, i < n → g i = h i) : ptrsG g n = ptrsG h n := List.map_congr_left fun i hi => by rw [e i (by simpa using hi)]
theorem ptrsG_take (g : Nat → Nm) (n m : Nat) : (ptrsG g n).take m = ptrsG g (min m n) := by
  unfold ptrsG
  rw [← List.map_take, List.take_range]
theorem accP_map {φ : Nm → Nm} {ty : TypeId} {g : Nat → Nm} {n : Nat} : (accP ty g n).map φ = accP ty (fun i => φ (g i)) n := by
  simp only [accP, AObj.map, List.map_map]
  congr 1
  rw [← ptrsG_map, List.map_map]
  rfl
theorem cellP_map {φ : Nm → Nm} {ty : TypeId} {g : Nat → Nm} {n : Nat} : (cellP ty g n).map φ = cellP ty (fun i => φ (g i)) n := by
  simp only [cellP, AObj.map, ptrsG_map]
theorem accP_nm {ty : TypeId} {g : Nat → Nm} {n : Nat} {x : Cell} (h : x ∈ (accP ty g n).cls) {m : Nm} (hm : x.at m) : ∃ i, i < n ∧ m = g i := by
  obtain ⟨c, hc, hx⟩ := List.mem_flatten.1 h
  obtain ⟨y, hy, rfl⟩ := List.mem_map.1 hc
  simp only [List.mem_singleton] at hx
  subst hx
  obtain ⟨j, hj, rfl⟩ := ptrsG_mem hy
  exact ⟨j, hj, hm.symm⟩
theorem cellP_nm {ty : TypeId} {g : Nat → Nm} {n : Nat} {x : Cell} (h : x ∈ (cellP ty g n).cls) {m : Nm} (hm : x.at m) : ∃ i, i < n ∧ m = g i := by
  obtain ⟨j, hj, rfl⟩ := ptrsG_mem h
  exact ⟨j, hj, hm.symm⟩

theorem fam_inj (n : Nm) : ∀ i j, Nm.fam n i = Nm.fam n j → i = j := fun i j h => by injection h

theorem gathO {fl fl' : FL} {A sl : SL} {S : Store} {b q d k : Nat} {ob0 ob1 o : AObj} {os : List AObj}
    (h0 : lkS A (.loc b) = some ob0) (hd : lkS A (.loc d) = some o) (ho : o.nm0) (hf : ∀ i o', os[i]? = some o' → lkS A (.fam (.loc q) i) = some o' ∧ o'.nm0) (hk : os.length = k) (hbd : b ≠ d)
    (hob : ∀ φ : Nm → Nm, (∀ i, i < k → φ (.fam (.loc q) i) = .fam (.loc q) i) → φ (.fam (.loc q) k) = .loc d → ob1.map φ = ob0)
    (hobN : ∀ x ∈ ob1.cls, ∀ r, x.at r → ∃ i, i < k + 1 ∧ r = .fam (.loc q) i) (hA : ∀ m, lkS A m ≠ none → m.isOut = false ∧ lkS sl m = none) (hsl : ∀ n o, lkS sl n = some o → o.nm0)
    (hfl : RenF sl (.loc b) (.loc b) (.fam (.loc q)) fl fl') :
    Weak ⟨lk' fl, ov (A ++ sl) (pushS S)⟩ ⟨lk' fl', ov (((.loc b, ob1) :: famL (.fam (.loc q)) 0 (os ++ [o])) ++ sl) (pushS S)⟩ := by
  subst hk
  have hlen : (os ++ [o]).length = os.length + 1 := by simp
  refine Weak.renG (g0 := fun i => if i = os.length then .loc d else .fam (.loc q) i) h0 (fun i o' hi => ?_) (fun φ hφ => ?_) (fun x hx r hr => by rw [hlen]; exact hobN x hx r hr) (fam_inj _) (fun i e => by cases e) (fun i j hi hj e => ?_) (fun i hi e => ?_) rfl (fun _ => rfl) hA hsl hfl
  · by_cases e : i = os.length
    · subst e
      rw [List.getElem?_append_right (Nat.le_refl _), Nat.sub_self] at hi
      simp only [List.getElem?_cons_zero, Option.some.injEq] at hi
      subst hi
      rw [if_pos rfl]; exact ⟨hd, ho⟩
    · have hlt := (List.getElem?_eq_some_iff.1 hi).1
      rw [hlen] at hlt
      rw [List.getElem?_append_left (by omega)] at hi
      rw [if_neg e]; exact hf i o' hi
  · refine hob φ (fun i hi => ?_) ?_
    · have := hφ i (by rw [hlen]; omega)
      rwa [if_neg (by omega)] at this
    · have := hφ os.length (by rw [hlen]; omega)
      rwa [if_pos rfl] at this
  · split at e <;> split at e
    · omega
    · cases e
    · cases e
    · exact fam_inj _ _ _ e
  · split at e
    · injection e with e; exact hbd e.symm
    · cases e

theorem gathA {fl fl' : FL} {A sl : SL} {S : Store} {b q d k : Nat} {ty : TypeId} {o : AObj} {os : List AObj}
    (h0 : lkS A (.loc b) = some (.acc ty 1 ((ptrsG (.fam (.loc q)) k).map (fun c => [c]) ++ [[.ptr (.loc d) 0]]))) (hd : lkS A (.loc d) = some o) (ho : o.nm0) (hf : ∀ i o', os[i]? = some o' → lkS A (.fam (.loc q) i) = some o' ∧ o'.nm0) (hk : os.length = k) (hbd : b ≠ d)
    (hA : ∀ m, lkS A m ≠ none → m.isOut = false ∧ lkS sl m = none) (hsl : ∀ n o, lkS sl n = some o → o.nm0)
    (hfl : RenF sl (.loc b) (.loc b) (.fam (.loc q)) fl fl') :
    Weak ⟨lk' fl, ov (A ++ sl) (pushS S)⟩ ⟨lk' fl', ov (((.loc b, accP ty (.fam (.loc q)) (k + 1)) :: famL (.fam (.loc q)) 0 (os ++ [o])) ++ sl) (pushS S)⟩ := by
  refine gathO h0 hd ho hf hk hbd (fun φ h1 h2 => ?_) (fun x hx r hr => accP_nm hx hr) hA hsl hfl
  rw [accP_map, accP, ptrsG_succ, List.map_append, ptrsG_congr h1, h2]
  rfl

theorem out_none {A : SL} (h : ∀ m, lkS A (.out m) = none) : ∀ m, lkS A m ≠ none → m.isOut = false ∧ lkS [] m = none := fun m hm => by
  cases m with
  | out q => exact absurd (h q) hm
  | _ => exact ⟨rfl, rfl⟩
theorem gathO0 {fl fl' : FL} {A : SL} {S : Store} {b q d k : Nat} {ob0 ob1 o : AObj} {os : List AObj}
    (h0 : lkS A (.loc b) = some ob0) (hd : lkS A (.loc d) = some o) (ho : o.nm0) (hf : ∀ i o', os[i]? = some o' → lkS A (.fam (.loc q) i) = some o' ∧ o'.nm0) (hk : os.length = k) (hbd : b ≠ d)
    (hob : ∀ φ : Nm → Nm, (∀ i, i < k → φ (.fam (.loc q) i) = .fam (.loc q) i) → φ (.fam (.loc q) k) = .loc d → ob1.map φ = ob0)
    (hobN : ∀ x ∈ ob1.cls, ∀ r, x.at r → ∃ i, i < k + 1 ∧ r = .fam (.loc q) i) (hA : ∀ m, lkS A (.out m) = none) (hfl : RenF [] (.loc b) (.loc b) (.fam (.loc q)) fl fl') :
    Weak ⟨lk' fl, ov A (pushS S)⟩ ⟨lk' fl', ov ((.loc b, ob1) :: famL (.fam (.loc q)) 0 (os ++ [o])) (pushS S)⟩ := by
  have := gathO (S := S) h0 hd ho hf hk hbd hob hobN (out_none hA) (fun _ _ h => by cases h) hfl
  simpa only [List.append_nil] using this
theorem gathA0 {fl fl' : FL} {A : SL} {S : Store} {b q d k : Nat} {ty : TypeId} {o : AObj} {os : List AObj}
    (h0 : lkS A (.loc b) = some (.acc ty 1 ((ptrsG (.fam (.loc q)) k).map (fun c => [c]) ++ [[.ptr (.loc d) 0]]))) (hd : lkS A (.loc d) = some o) (ho : o.nm0) (hf : ∀ i o', os[i]? = some o' → lkS A (.fam (.loc q) i) = some o' ∧ o'.nm0) (hk : os.length = k) (hbd : b ≠ d)
    (hA : ∀ m, lkS A (.out m) = none) (hfl : RenF [] (.loc b) (.loc b) (.fam (.loc q)) fl fl') :
    Weak ⟨lk' fl, ov A (pushS S)⟩ ⟨lk' fl', ov ((.loc b, accP ty (.fam (.loc q)) (k + 1)) :: famL (.fam (.loc q)) 0 (os ++ [o])) (pushS S)⟩ := by
  have := gathA (S := S) h0 hd ho hf hk hbd (out_none hA) (fun _ _ h => by cases h) hfl
  simpa only [List.append_nil] using this

theorem frz_grp {A B : Store} {m : Nm} {ob : AObj} {g : Nat → Nm} {os : List AObj} (hm : A m = some ob) (hk : ∀ x ∈ ob.cls, ∀ q, x.at q → B q ≠ none) (hos : ∀ i o, os[i]? = some o → A (g i) = some o ∧ o.nm0) : FrzS A B ((m, ob) :: famL g 0 os) :=
  ⟨.inl ⟨ob, hm, .keep hk⟩, fFam fun j o hj => by rw [Nat.zero_add]; exact ⟨(hos j o hj).1, .keep fun x hx q hq => absurd hq ((hos j o hj).2 x hx q)⟩⟩

section
variable {P : Program} {T : TT} {mu : FuncId → Bool} {ops : Array Oper} {fl : FL} {sl : SL} {S : Store} {K : St → Prop}
  {d : Nat} {ty : TypeId} {pos : String} {after : Array Edge}
theorem s_appP {s x : Operand} {tys : Array TypeId} {t e : TypeId} {as : Array Operand} {m : Nm} {n0 : Nat} {L : List (List Cell)} {xv : AVal} {z : Value} (Y : List (List Cell)) (hT : TOk P T) (hY : srcR (ov sl S) xv 1 Y)
    (hl : L.length + Y.length ≤ 17592186044416) (kk : K ⟨lk' ((d, .accv m (n0 + Y.length)) :: killL m fl), ov ((m, .acc e 1 (L ++ Y)) :: sl) S⟩)
    (ha : as.toList = [s, x] := by exact rfl) (ht : tys.toList = [t, t] := by exact rfl) (hu : undT T t = some (.slice e) := by exact rfl) (hc1 : celT T e = 1 := by exact rfl)
    (hz : zerT T e = some z := by exact rfl) (hzl : zlen z 1 = true := by exact rfl) (hs : opO fl s = some (.accv m n0) := by exact rfl) (hx : opO fl x = some xv := by exact rfl) (hm : lkS sl m = some (.acc e 1 L) := by exact lks)
    (hn : L.length = n0 := by first | rfl | (simp [ptrsG_len]; done) | (simp [ptrsG_len]; omega)) (ho : m.isOut = false := by exact rfl) (hb : bytT T e = some 8 := by exact rfl) :
    Stp P mu ops ⟨some d, .call ⟨.builtin .append, as, tys⟩, ty, pos, after, none⟩ ⟨lk' fl, ov sl S⟩ K := stp_appG hT ha ht hu hc1 (by decide) hz hzl hs hx hm hn ho hY hb ⟨by omega, by simp only [maxLen]; omega⟩ kk
end
end Go.Abs

/-
  Families frozen while their list goes on.
-/
namespace Go.Abs
open Go
section
variable {A B : Store}
theorem frzAccP {ty ty' : TypeId} {g : Nat → Nm} {rs : List (List Leaf)} (h : ∀ i ls, rs[i]? = some ls → A (g i) = some (.cells ty' (ls.map Leaf.cell)) ∧ B (g i) = none) : FrzO A B (accP ty g rs.length) (.acc ty 1 (rs.map fun ls => [.pim ls])) := by
  refine .acc ⟨by simp [ptrsG_len], fun i c c' hi hi' => ?_⟩
  simp only [List.getElem?_map, Option.map_eq_some_iff] at hi hi'
  obtain ⟨c0, h1, rfl⟩ := hi
  obtain ⟨ls, h2, rfl⟩ := hi'
  refine ⟨rfl, fun j x y hx hy => ?_⟩
  have hlt := (List.getElem?_eq_some_iff.1 h2).1
  match j, hx, hy with
  | 0, hx, hy =>
    simp only [List.getElem?_cons_zero, Option.some.injEq] at hx hy
    subst hx hy
    rw [ptrsG_get hlt] at h1
    obtain rfl := Option.some.inj h1
    exact leaves_frz (h i ls h2).1 (h i ls h2).2
end
theorem lkS_famO {n : Nm} {os : List AObj} {s : Nat} {m : Nm} : lkS (famL (Nm.fam n) s os) (.out m) = none := lkS_famN (fun i e => by cases e) os s
theorem lkS_famLoc {n : Nm} {os : List AObj} {s : Nat} {d : Nat} : lkS (famL (Nm.fam n) s os) (.loc d) = none := lkS_famN (fun i e => by cases e) os s
theorem frzAccP' {A B : Store} {ty ty' : TypeId} {g : Nat → Nm} {n : Nat} {rs : List (List Leaf)} (hn : rs.length = n) (h : ∀ i ls, rs[i]? = some ls → A (g i) = some (.cells ty' (ls.map Leaf.cell)) ∧ B (g i) = none) : FrzO A B (accP ty g n) (.acc ty 1 (rs.map fun ls => [.pim ls])) := by
  subst hn; exact frzAccP h
theorem lvs1 {A B : Store} {x y : AVal} (h : LendV A B x y) : LendVs A B [x] [y] := ⟨h, trivial⟩
theorem lvs2 {A B : Store} {x y x' y' : AVal} (h : LendV A B x y) (h' : LendV A B x' y') : LendVs A B [x, x'] [y, y'] := ⟨h, h', trivial⟩
end Go.Abs

/-
  Regions that draw their order, where loads stand beside calls that write: what is loaded lies in blocks that no step of the region writes.
-/
namespace Go.Abs
open Go

def Keeps (M : Nm → Prop) (S S' : Store) : Prop := ∀ n, M n → S' n = S n

section
variable {P : Program} {mu : FuncId → Bool} {ops : Array Oper} {M : Nm → Prop}

theorem Keeps.symm {S S' : Store} (h : Keeps M S S') : Keeps M S' S := fun n hn => (h n hn).symm
end
end Go.Abs
