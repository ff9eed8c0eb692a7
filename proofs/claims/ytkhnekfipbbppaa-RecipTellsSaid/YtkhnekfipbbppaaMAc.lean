/-
  An abstract machine for this program, contracts of its functions: part MAc (no statement by itself).
-/
import Derived.Test.YtkhnekfipbbppaaMAb
set_option linter.unusedVariables false
set_option linter.unusedSimpArgs false

/-
  Steps that read and write the store, calls, appends.
-/
namespace Go.Abs
open Go

def headL : List Leaf → Option Cell
  | .sc v :: _ => some (.sc v)
  | .ints k L :: _ => some (.ints k L)
  | [] => none
theorem headL_spec {cs : List Leaf} {y : Cell} (h : headL cs = some y) : ∃ x, cs[0]? = some x ∧ y = x.cell := by
  match cs, h with
  | .sc v :: _, h => exact ⟨_, rfl, (Option.some.inj h).symm⟩
  | .ints k L :: _, h => exact ⟨_, rfl, (Option.some.inj h).symm⟩

/-- A cell of an object. -/
def objO : AObj → Nat → Option (Cell × Prop)
  | .cells _ cs, off => match cs[off]? with
    | some y => some (y, True)
    | none => none
  | .ints _ k L, off => some (.sc (.int k (L.getD off 0)), off < L.length)
  | .acc .., _ => none

def solidF : Cell → Bool
  | .sc v => v.oneCell'
  | .junk => false
  | _ => true
theorem solidF_spec {x : Cell} (h : solidF x = true) : x.solid := by cases x <;> first | trivial | exact h | cases h

def setL : List Cell → Nat → Cell → Option (List Cell)
  | [], _, _ => none
  | _ :: cs, 0, y => some (y :: cs)
  | c :: cs, n + 1, y => match setL cs n y with
    | some r => some (c :: r)
    | none => none
theorem setL_spec : ∀ {cs : List Cell} {n : Nat} {y : Cell} {out : List Cell}, setL cs n y = some out → n + 1 ≤ cs.length ∧ out = spl cs n [y]
  | c :: cs, 0, y, out, h => by simp only [setL, Option.some.injEq] at h; subst h; simp [spl]
  | c :: cs, n + 1, y, out, h => by
    simp only [setL] at h
    split at h
    · rename_i r hr
      obtain ⟨h1, h2⟩ := setL_spec hr
      simp only [Option.some.injEq] at h
      subst h
      refine ⟨by simp; omega, ?_⟩
      subst h2
      simp [spl, List.take_succ_cons]
    · cases h

/-- An object after a store. -/
def putO (T : TT) (t : TypeId) (o : AObj) (off : Nat) (x : AVal) : Option (AObj × Prop) :=
  match o with
  | .ints ty k L => match x, celT T t with
    | .c (.sc (.int k' y)), 1 => match kEq k k' with
      | true => some (.ints ty k (L.set off y), off < L.length)
      | false => none
    | _, _ => none
  | .cells ty cs => match x, celT T t with
    | .c y, 1 => match solidF y, setL cs off y with
      | true, some cs' => some (.cells ty cs', True)
      | _, _ => none
    | .agg ys, n + 1 => some (.cells ty (spl cs off ys), ys.length = n + 1 ∧ off + ys.length ≤ cs.length)
    | _, _ => none
  | .acc .. => none

def normC : List Cell → Option (List Cell)
  | [] => some []
  | .sc v :: xs => match normC xs, v.oneCell' with
    | some r, true => some (.sc v :: r)
    | _, _ => none
  | _ => none
theorem normC_spec : ∀ {xs ys : List Cell}, normC xs = some ys → ys = xs ∧ ∀ x ∈ xs, x.solid
  | [], ys, h => by simp only [normC, Option.some.injEq] at h; subst h; simp
  | .sc v :: xs, ys, h => by
    simp only [normC] at h
    split at h
    · rename_i r hr hv
      obtain ⟨h1, h2⟩ := normC_spec hr
      simp only [Option.some.injEq] at h
      subst h; subst h1
      refine ⟨rfl, fun x hx => ?_⟩
      rcases List.mem_cons.1 hx with rfl | hx
      · exact hv
      · exact h2 x hx
    · cases h

/-- A type's nought, cell by cell. -/
def zerF (T : TT) (e : TypeId) : Option (List Cell) :=
  match zerT T e with
  | some z => normC (z.cells.toList.map .sc)
  | none => none
theorem zerF_spec {P : Program} {T : TT} (hT : TOk P T) {e : TypeId} {z : List Cell} (h : zerF T e = some z) : zeroCells P e = some z ∧ ∀ x ∈ z, x.solid := by
  unfold zerF at h
  split at h
  · rename_i z' hz
    obtain ⟨h1, h2⟩ := normC_spec h
    subst h1
    exact ⟨by simp only [zeroCells, hT.zer hz, Option.map_some], h2⟩
  · cases h

def intsPart (fl : FL) : List (Nat × Operand) → Nat → Option (IntKind × List Int)
  | [], _ => none
  | [(i, x)], n => match Nat.beq i n, opO fl x with
    | true, some (.c (.sc (.int k a))) => some (k, [a])
    | _, _ => none
  | (i, x) :: r, n => match Nat.beq i n, opO fl x, intsPart fl r (n + 1) with
    | true, some (.c (.sc (.int k a))), some (k', L) => match kEq k k' with
      | true => some (k, a :: L)
      | false => none
    | _, _, _ => none

section
variable {P : Program} {T : TT} {mu : FuncId → Bool} {N : Nat} {ops : Array Oper} {fl : FL} {sl : SL} {S : Store} {K : St → Prop}
  {d : Nat} {ty : TypeId} {pos : String} {after : Array Edge}

theorem stp_loadp (hT : TOk P T) {t : TypeId} {x : Operand} {cs : List Leaf} {y : Cell} {S' : Store} (hx : opO fl x = some (.c (.pim cs))) (ha : agT T t = some false) (hy : headL cs = some y) (k : K ⟨lk' ((d, .c y) :: fl), S'⟩) :
    Stp P mu ops ⟨some d, .load t x, ty, pos, after, none⟩ ⟨lk' fl, S'⟩ K := by
  obtain ⟨l, h1, rfl⟩ := headL_spec hy
  exact ⟨_, ⟨.c l.cell, S', ⟨by rw [opO_look hx]; exact .inr ⟨hT.ag ha, l, h1, rfl⟩, rfl⟩, rfl⟩, by rw [putF_lk]; exact k⟩

theorem stp_loadpa (hT : TOk P T) {t : TypeId} {x : Operand} {cs : List Leaf} {n : Nat} {S' : Store} (hx : opO fl x = some (.c (.pim cs))) (ha : agT T t = some true) (hn : celT T t = n + 1) (hl : n + 1 ≤ cs.length)
    (k : K ⟨lk' ((d, .agg ((cs.take (n + 1)).map Leaf.cell)) :: fl), S'⟩) :
    Stp P mu ops ⟨some d, .load t x, ty, pos, after, none⟩ ⟨lk' fl, S'⟩ K :=
  ⟨_, ⟨_, S', ⟨by rw [opO_look hx]; exact .inl ⟨hT.ag ha, by rw [hT.cel hn (by simp)]; simp, by rw [hT.cel hn (by simp)]; exact hl, by rw [hT.cel hn (by simp)]⟩, rfl⟩, rfl⟩, by rw [putF_lk]; exact k⟩

theorem stp_load (hT : TOk P T) {t : TypeId} {x : Operand} {m : Nm} {off : Nat} {o : AObj} {y : Cell} {C : Prop} (hx : opO fl x = some (.c (.ptr m off))) (ha : agT T t = some false) (hm : lkS sl m = some o) (hy : objO o off = some (y, C)) (hc : C)
    (k : K ⟨lk' ((d, .c y) :: fl), ov sl S⟩) : Stp P mu ops ⟨some d, .load t x, ty, pos, after, none⟩ ⟨lk' fl, ov sl S⟩ K := by
  refine ⟨_, ⟨.c y, ov sl S, ⟨?_, rfl⟩, rfl⟩, by rw [putF_lk]; exact k⟩
  rw [opO_look hx]
  refine ⟨o, ov_of hm, .inr ⟨hT.ag ha, y, ?_, rfl⟩⟩
  cases o with
  | cells ty cs =>
    simp only [objO] at hy
    split at hy
    · rename_i y' hy'; simp only [Option.some.injEq, Prod.mk.injEq] at hy; obtain ⟨rfl, -⟩ := hy; exact hy'
    · cases hy
  | ints ty k L =>
    simp only [objO, Option.some.injEq, Prod.mk.injEq] at hy
    obtain ⟨rfl, rfl⟩ := hy
    simp [objCell, List.getElem?_eq_getElem hc]
  | acc ty k L => cases hy

theorem stp_loada (hT : TOk P T) {t : TypeId} {x : Operand} {m : Nm} {off n : Nat} {ty' : TypeId} {cs : List Cell} (hx : opO fl x = some (.c (.ptr m off))) (ha : agT T t = some true) (hn : celT T t = n + 1) (hm : lkS sl m = some (.cells ty' cs))
    (hl : off + (n + 1) ≤ cs.length) (k : K ⟨lk' ((d, .agg ((cs.drop off).take (n + 1))) :: fl), ov sl S⟩) : Stp P mu ops ⟨some d, .load t x, ty, pos, after, none⟩ ⟨lk' fl, ov sl S⟩ K := by
  refine ⟨_, ⟨_, ov sl S, ⟨?_, rfl⟩, rfl⟩, by rw [putF_lk]; exact k⟩
  rw [opO_look hx]
  exact ⟨_, ov_of hm, .inl ⟨hT.ag ha, by rw [hT.cel hn (by simp)]; simp, ty', cs, rfl, by rw [hT.cel hn (by simp)]; exact hl, by rw [hT.cel hn (by simp)]⟩⟩

theorem stp_store (hT : TOk P T) {t : TypeId} {x y : Operand} {m : Nm} {off : Nat} {o o' : AObj} {v : AVal} {C : Prop} (hx : opO fl x = some (.c (.ptr m off))) (hy : opO fl y = some v) (hm : lkS sl m = some o) (ho : putO T t o off v = some (o', C)) (hc : C)
    (k : K ⟨lk' fl, ov ((m, o') :: sl) S⟩) : Stp P mu ops ⟨none, .store t x y, ty, pos, after, none⟩ ⟨lk' fl, ov sl S⟩ K := by
  refine ⟨⟨lk' fl, upd (ov sl S) m o'⟩, ⟨.c (.sc undef), _, ⟨?_, rfl⟩, rfl⟩, by rw [upd_ov]; exact k⟩
  rw [opO_look hx, opO_look hy]
  unfold putO at ho
  split at ho
  · rename_i ty kk L
    split at ho
    · rename_i k' y hn
      split at ho
      · rename_i hk
        simp only [Option.some.injEq, Prod.mk.injEq] at ho
        obtain ⟨rfl, rfl⟩ := ho
        obtain rfl := kEq_eq hk
        exact .inr ⟨ty, kk, L, y, ov_of hm, hT.cel hn (by simp), rfl, hc, rfl⟩
      · cases ho
    · cases ho
  · rename_i ty cs
    split at ho
    · rename_i y hn
      split at ho
      · rename_i cs' hs hset
        have hn := hT.cel hn (by simp)
        simp only [Option.some.injEq, Prod.mk.injEq] at ho
        obtain ⟨rfl, rfl⟩ := ho
        obtain ⟨h1, rfl⟩ := setL_spec hset
        exact .inl ⟨ty, cs, ov_of hm, solidF_spec hs, by omega, by simp [AVal.cells, hn], by simpa [AVal.cells] using h1, rfl⟩
      · cases ho
    · rename_i ys n hn
      have hn := hT.cel hn (by simp)
      simp only [Option.some.injEq, Prod.mk.injEq] at ho
      obtain ⟨rfl, rfl⟩ := ho
      exact .inl ⟨ty, cs, ov_of hm, trivial, by omega, by simp [AVal.cells, hn, hc.1], hc.2, rfl⟩
    · cases ho
  · cases ho

def freeO : SL → Nat → Bool
  | [], _ => true
  | (.loc a, _) :: r, d => match Nat.beq a d with
    | true => false
    | false => freeO r d
  | _ :: r, d => freeO r d
theorem freeO_spec {S : Store} : ∀ {sl : SL} {d : Nat}, freeO sl d = true → (ov sl (pushS S)) (.loc d) = none
  | [], d, _ => rfl
  | (.loc a, o) :: r, d, h => by
    simp only [freeO] at h
    split at h
    · cases h
    · rename_i e
      have : d ≠ a := fun q => by subst q; simp [Nat.beq_refl] at e
      have ih := freeO_spec (S := S) h
      simpa [ov, lkS, this] using ih
  | (.out a, o) :: r, d, h => by have ih := freeO_spec (S := S) (sl := r) h; simpa [ov, lkS] using ih
  | (.new, o) :: r, d, h => by have ih := freeO_spec (S := S) (sl := r) h; simpa [ov, lkS] using ih
  | (.fam a i, o) :: r, d, h => by have ih := freeO_spec (S := S) (sl := r) h; simpa [ov, lkS] using ih

theorem stp_alloc (hT : TOk P T) {e : TypeId} {z : List Cell} (hz : zerF T e = some z) (hf : freeO sl d = true) (k : K ⟨lk' ((d, .c (.ptr (.loc d) 0)) :: fl), ov ((.loc d, .cells e z) :: sl) (pushS S)⟩) :
    Stp P mu ops ⟨some d, .alloc e, ty, pos, after, none⟩ ⟨lk' fl, ov sl (pushS S)⟩ K := by
  obtain ⟨h1, h2⟩ := zerF_spec hT hz
  exact ⟨_, ⟨_, _, ⟨d, .cells e z, rfl, freeO_spec hf, ⟨z, h1, h2, rfl, rfl⟩, rfl⟩, rfl⟩, by rw [putF_lk, upd_ov]; exact k⟩

theorem stp_box {e : TypeId} {x : Operand} {y : Cell} (hx : opO fl x = some (.c y)) (hs : solidF y = true) (hf : freeO sl d = true) (k : K ⟨lk' ((d, .c (.ptr (.loc d) 0)) :: fl), ov ((.loc d, .cells e [y]) :: sl) (pushS S)⟩) :
    Stp P mu ops ⟨some d, .box e x, ty, pos, after, none⟩ ⟨lk' fl, ov sl (pushS S)⟩ K :=
  ⟨_, ⟨_, _, ⟨d, .cells e [y], rfl, freeO_spec hf, ⟨by rw [opO_look hx]; exact solidF_spec hs, rfl, by rw [opO_look hx]; rfl⟩, rfl⟩, rfl⟩, by rw [putF_lk, upd_ov]; exact k⟩

theorem stp_make (hT : TOk P T) {t e : TypeId} {l c : Operand} {a b : Int} {ka kb k : IntKind} (ht : undT T t = some (.slice e)) (hc1 : celT T e = 1) (hb8 : bytT T e = some 8) (hz : zerF T e = some [.sc (.int k 0)])
    (hl : opO fl l = some (ivl ka a)) (hc : opO fl c = some (ivl kb b)) (hf : freeO sl d = true) (hb : 0 ≤ a ∧ a ≤ b ∧ b ≤ 35184372088832)
    (kk : K ⟨lk' ((d, .c (.win (.loc d) 0 a.toNat b.toNat)) :: fl), ov ((.loc d, .ints e k (List.replicate b.toNat 0)) :: sl) (pushS S)⟩) :
    Stp P mu ops ⟨some d, .makeSlice t l c, ty, pos, after, none⟩ ⟨lk' fl, ov sl (pushS S)⟩ K := by
  have ht := hT.und ht
  have hc1 := hT.cel hc1 (by simp)
  have hb8 := hT.byt hb8
  obtain ⟨h1, h2⟩ := zerF_spec hT hz
  refine ⟨_, ⟨_, _, ⟨d, .ints e k (List.replicate b.toNat 0), rfl, freeO_spec hf, ⟨e, _, ht, by omega, h1, by simp [hc1], h2, ?_⟩, rfl⟩, rfl⟩, by rw [putF_lk, upd_ov]; exact kk⟩
  rw [opO_look hl, opO_look hc]
  exact ⟨hb.1, hb.2.1, by rw [hb8]; omega, by omega, .inl ⟨rfl, .inr ⟨k, 0, rfl, rfl⟩⟩⟩

theorem stp_make1 (hT : TOk P T) {t e : TypeId} {l c : Operand} {a b : Int} {ka kb k : IntKind} (ht : undT T t = some (.slice e)) (hc1 : celT T e = 1) (hb8 : bytT T e = some 1) (hz : zerF T e = some [.sc (.int k 0)])
    (hl : opO fl l = some (ivl ka a)) (hc : opO fl c = some (ivl kb b)) (hf : freeO sl d = true) (hb : 0 ≤ a ∧ a ≤ b ∧ b ≤ 281474976710656)
    (kk : K ⟨lk' ((d, .c (.win (.loc d) 0 a.toNat b.toNat)) :: fl), ov ((.loc d, .ints e k (List.replicate b.toNat 0)) :: sl) (pushS S)⟩) :
    Stp P mu ops ⟨some d, .makeSlice t l c, ty, pos, after, none⟩ ⟨lk' fl, ov sl (pushS S)⟩ K := by
  have ht := hT.und ht
  have hc1 := hT.cel hc1 (by simp)
  have hb8 := hT.byt hb8
  obtain ⟨h1, h2⟩ := zerF_spec hT hz
  refine ⟨_, ⟨_, _, ⟨d, .ints e k (List.replicate b.toNat 0), rfl, freeO_spec hf, ⟨e, _, ht, by omega, h1, by simp [hc1], h2, ?_⟩, rfl⟩, rfl⟩, by rw [putF_lk, upd_ov]; exact kk⟩
  rw [opO_look hl, opO_look hc]
  exact ⟨hb.1, hb.2.1, by rw [hb8]; omega, by omega, .inl ⟨rfl, .inr ⟨k, 0, rfl, rfl⟩⟩⟩

/-- A new list that is to grow. -/
theorem stp_makeA (hT : TOk P T) {t e : TypeId} {l c : Operand} {a b : Int} {ka kb k : IntKind} (ht : undT T t = some (.slice e)) (hc1 : celT T e = 1) {nb : Nat} (hb8 : bytT T e = some nb) (hz : zerF T e = some [.sc (.int k 0)])
    (hl : opO fl l = some (ivl ka a)) (hc : opO fl c = some (ivl kb b)) (hf : freeO sl d = true) (hab : a = b) (hb : 0 ≤ a ∧ (nb : Int) * b ≤ 281474976710656 ∧ b ≤ 9223372036854775807)
    (kk : K ⟨lk' ((d, .accv (.loc d)) :: fl), ov ((.loc d, .acc e k (List.replicate b.toNat 0)) :: sl) (pushS S)⟩) :
    Stp P mu ops ⟨some d, .makeSlice t l c, ty, pos, after, none⟩ ⟨lk' fl, ov sl (pushS S)⟩ K := by
  have ht := hT.und ht
  have hc1 := hT.cel hc1 (by simp)
  have hb8 := hT.byt hb8
  obtain ⟨h1, h2⟩ := zerF_spec hT hz
  refine ⟨_, ⟨_, _, ⟨d, .acc e k (List.replicate b.toNat 0), rfl, freeO_spec hf, ⟨e, _, ht, by omega, h1, by simp [hc1], h2, ?_⟩, rfl⟩, rfl⟩, by rw [putF_lk, upd_ov]; exact kk⟩
  rw [opO_look hl, opO_look hc]
  exact ⟨hb.1, by omega, by rw [hb8]; omega, by omega, .inr ⟨hab, k, 0, rfl, rfl, rfl⟩⟩

theorem int_fill {k : IntKind} : ∀ (ps : List (Nat × Operand)) (n : Nat) (pre : List Int) (L : List Int) (tl : List Cell), intsPart fl ps n = some (k, L) → pre.length = n → ps.length = tl.length →
    fillE (fun i => some (i * 1, 1)) (look (lk' fl)) (intsOf k pre ++ tl) ps (intsOf k (pre ++ L))
  | [], n, pre, L, tl, h, _, _ => by cases h
  | [(i, x)], n, pre, L, tl, h, hp, ht => by
    simp only [intsPart] at h
    split at h
    · rename_i k' a hi hx
      simp only [Option.some.injEq, Prod.mk.injEq] at h
      obtain ⟨rfl, rfl⟩ := h
      have := Nat.eq_of_beq_eq_true hi
      subst this
      match tl, ht with
      | [y], _ =>
        refine ⟨_, _, rfl, by rw [opO_look hx]; rfl, by rw [opO_look hx]; rfl, by simp [intsOf, hp], ?_⟩
        rw [opO_look hx]
        simp [fillE, AVal.cells, spl, intsOf, hp]
    · cases h
  | (i, x) :: q :: r, n, pre, L, tl, h, hp, ht => by
    simp only [intsPart] at h
    split at h
    · rename_i k1 a k2 L2 hi hx hr
      split at h
      · rename_i hk
        simp only [Option.some.injEq, Prod.mk.injEq] at h
        obtain ⟨rfl, rfl⟩ := h
        obtain rfl := kEq_eq hk
        have := Nat.eq_of_beq_eq_true hi
        subst this
        match tl, ht with
        | y :: tl, ht =>
          refine ⟨_, _, rfl, by rw [opO_look hx]; rfl, by rw [opO_look hx]; rfl, by simp [intsOf, hp], ?_⟩
          rw [opO_look hx]
          have ih := int_fill (k := k1) (q :: r) (i + 1) (pre ++ [a]) L2 tl hr (by simp [hp]) (by simpa using ht)
          have e : spl (intsOf k1 pre ++ y :: tl) (i * 1) (AVal.cells (ivl k1 a)) = intsOf k1 (pre ++ [a]) ++ tl := by
            have hd : List.drop (i + 1) (List.map (fun x => Cell.sc (Value.int k1 x)) pre ++ y :: tl) = tl := by
              rw [List.drop_append]; simp [hp]
            simp [spl, AVal.cells, intsOf, hp, hd]
          rw [e]
          simpa using ih
      · cases h
    · cases h

/-- The same, to be appended to. -/
theorem stp_intsA (hT : TOk P T) {t e : TypeId} {n : Nat} {ps : Array (Nat × Operand)} {k : IntKind} {L : List Int} (ht : undT T t = some (.slice e)) (hc1 : celT T e = 1) (hz : zerF T e = some [.sc (.int k 0)]) (hp : intsPart fl ps.toList 0 = some (k, L) ∨ (ps.toList = [] ∧ L = []))
    (hn : Nat.beq ps.toList.length n = true) (hsmall : Nat.ble n 1000 = true) (hf : freeO sl d = true)
    (kk : K ⟨lk' ((d, .accv (.loc d)) :: fl), ov ((.loc d, .acc e k L) :: sl) (pushS S)⟩) :
    Stp P mu ops ⟨some d, .buildSlice t n ps, ty, pos, after, none⟩ ⟨lk' fl, ov sl (pushS S)⟩ K := by
  have ht := hT.und ht
  have hc1 := hT.cel hc1 (by simp)
  obtain ⟨h1, h2⟩ := zerF_spec hT hz
  have hn := Nat.eq_of_beq_eq_true hn
  have hs := Nat.le_of_ble_eq_true hsmall
  refine ⟨_, ⟨_, _, ⟨d, .acc e k L, rfl, freeO_spec hf, ⟨e, _, intsOf k L, ht, by omega, by rw [hc1]; omega, h1, by simp [hc1], h2, ?_, .inr ⟨hc1, k, L, rfl, rfl, rfl⟩⟩, rfl⟩, rfl⟩, by rw [putF_lk, upd_ov]; exact kk⟩
  rcases hp with hp | ⟨hp, rfl⟩
  · have := int_fill (k := k) ps.toList 0 [] L (rep n [.sc (.int k 0)]) hp rfl (by rw [rep_length]; simp [hn])
    simpa [hc1, intsOf] using this
  · rw [hp] at hn ⊢
    have : n = 0 := hn.symm
    subst this
    rfl

/-- A list of whole numbers written out. -/
theorem stp_ints (hT : TOk P T) {t e : TypeId} {n : Nat} {ps : Array (Nat × Operand)} {k : IntKind} {L : List Int} (ht : undT T t = some (.slice e)) (hc1 : celT T e = 1) (hz : zerF T e = some [.sc (.int k 0)]) (hp : intsPart fl ps.toList 0 = some (k, L))
    (hn : Nat.beq ps.toList.length n = true) (hsmall : Nat.ble n 1000 = true) (hf : freeO sl d = true)
    (kk : K ⟨lk' ((d, .c (.win (.loc d) 0 n n)) :: fl), ov ((.loc d, .ints e k L) :: sl) (pushS S)⟩) :
    Stp P mu ops ⟨some d, .buildSlice t n ps, ty, pos, after, none⟩ ⟨lk' fl, ov sl (pushS S)⟩ K := by
  have ht := hT.und ht
  have hc1 := hT.cel hc1 (by simp)
  obtain ⟨h1, h2⟩ := zerF_spec hT hz
  have hn := Nat.eq_of_beq_eq_true hn
  have hs := Nat.le_of_ble_eq_true hsmall
  refine ⟨_, ⟨_, _, ⟨d, .ints e k L, rfl, freeO_spec hf, ⟨e, _, intsOf k L, ht, by omega, by rw [hc1]; omega, h1, by simp [hc1], h2, ?_, .inl ⟨rfl, .inr ⟨k, L, rfl, rfl⟩⟩⟩, rfl⟩, rfl⟩, by rw [putF_lk, upd_ov]; exact kk⟩
  have := int_fill (k := k) ps.toList 0 [] L (rep n [.sc (.int k 0)]) hp rfl (by rw [rep_length]; simp [hn])
  simpa [hc1, intsOf] using this
end
end Go.Abs

/-
  Calls, appends; states that say less, in the midst of a region; loops.
-/
namespace Go.Abs
open Go

def nm0 (x : AVal) : Prop := ∀ m, ¬ x.at m

/-- f of args is res; nothing is written. -/
structure AFun (P : Program) (f : FuncId) (args : List AVal) (res : AVal) : Prop where
  calls : ∀ Φ, ACalls P f args Φ (fun _ => res) (fun _ => [])
  res0 : nm0 res
  args0 : ∀ x ∈ args, nm0 x

/-- What a call may touch. -/
structure ASide (mu : FuncId → Bool) (f : FuncId) (d : Option Nat) (args : List AVal) (res : AVal) (ups : List (Nm × AObj)) : Prop where
  a1 : ∀ p ∈ ups, p.1 = nmOf d ∨ (mu f = true ∧ ∃ x ∈ args, x.at p.1)
  a2 : ups = [] ∨ (mu f = true) ∨ ∃ k o, d = some k ∧ ups = [(nmOf d, o)]
  a3 : ∀ m, res.at m → (m = nmOf d ∧ ∃ o, (m, o) ∈ ups) ∨ ∃ x ∈ args, x.at m
  a4 : ∀ p ∈ ups, ∀ ty cs, p.2 = .cells ty cs → ∀ x ∈ cs, ∀ m, x.at m → (m = nmOf d ∧ ∃ o, (m, o) ∈ ups) ∨ ∃ x ∈ args, x.at m

def addL : SL → SL → SL
  | sl, [] => sl
  | sl, p :: ups => addL (p :: sl) ups
theorem updL_ov {S : Store} : ∀ (ups : SL) (sl : SL), updL (ov sl S) ups = ov (addL sl ups) S
  | [], sl => rfl
  | p :: ups, sl => by simp only [updL, addL]; rw [upd_ov]; exact updL_ov ups _

section
variable {P : Program} {T : TT} {mu : FuncId → Bool} {N : Nat} {ops : Array Oper} {fl : FL} {sl : SL} {S : Store} {K : St → Prop}
  {d : Nat} {ty : TypeId} {pos : String} {after : Array Edge}

theorem kindC_val {f : Operand} {args : Array Operand} {tys : Array TypeId} : ¬ kindC mu ⟨.value f, args, tys⟩ = .app := by
  cases f <;> simp [kindC]
  split <;> simp

theorem stp_call {g : Operand} {f : FuncId} {caps : List Cell} {as : Array Operand} {tys : Array TypeId} {xs args : List AVal} {Φ : Store} {res : Nm → AVal} {ups : Nm → List (Nm × AObj)}
    (hc : ACalls P f args Φ res ups) (hg : opO fl g = some (.fn f caps)) (hx : opsO fl as.toList = some xs) (hle : ALes (xs ++ caps.map .c) args) (hf : freeO sl d = true) (hΦ : ∀ m, (∃ x ∈ args, x.at m) → ov sl (pushS S) m = Φ m)
    (hs : ASide mu f (some d) args (res (.loc d)) (ups (.loc d))) (k : K ⟨lk' ((d, res (.loc d)) :: fl), ov (addL sl (ups (.loc d))) (pushS S)⟩) :
    Stp P mu ops ⟨some d, .call ⟨.value g, as, tys⟩, ty, pos, after, none⟩ ⟨lk' fl, ov sl (pushS S)⟩ K := by
  refine ⟨⟨putF (lk' fl) (some d) (res (.loc d)), updL (ov sl (pushS S)) (ups (.loc d))⟩, ?_, by rw [putF_lk, updL_ov]; exact k⟩
  simp only [aStep, aExec, if_neg kindC_val]
  exact ⟨_, _, ⟨f, caps, args, Φ, res, ups, opO_look hg, by rw [opsO_look hx]; exact hle, hc, hΦ, freeO_spec hf, rfl, rfl, hs.a1, hs.a2, hs.a3, hs.a4⟩, rfl⟩

theorem stp_callN {g : Operand} {f : FuncId} {caps : List Cell} {as : Array Operand} {tys : Array TypeId} {xs args : List AVal} {Φ : Store} {res : Nm → AVal} {ups : Nm → List (Nm × AObj)}
    (hc : ACalls P f args Φ res ups) (hg : opO fl g = some (.fn f caps)) (hx : opsO fl as.toList = some xs) (hle : ALes (xs ++ caps.map .c) args) (hf : lkS sl .new = none) (hΦ : ∀ m, (∃ x ∈ args, x.at m) → ov sl (pushS S) m = Φ m)
    (hs : ASide mu f none args (res .new) (ups .new)) (k : K ⟨lk' fl, ov (addL sl (ups .new)) (pushS S)⟩) :
    Stp P mu ops ⟨none, .call ⟨.value g, as, tys⟩, ty, pos, after, none⟩ ⟨lk' fl, ov sl (pushS S)⟩ K := by
  refine ⟨⟨lk' fl, updL (ov sl (pushS S)) (ups .new)⟩, ?_, by rw [updL_ov]; exact k⟩
  simp only [aStep, aExec, if_neg kindC_val]
  exact ⟨_, _, ⟨f, caps, args, Φ, res, ups, opO_look hg, by rw [opsO_look hx]; exact hle, hc, hΦ, by simp [nmOf, ov, hf, pushS], rfl, rfl, hs.a1, hs.a2, hs.a3, hs.a4⟩, rfl⟩

theorem stp_callF {f : FuncId} {as : Array Operand} {tys : Array TypeId} {xs args : List AVal} {res : AVal} (hc : AFun P f args res) (hx : opsO fl as.toList = some xs) (hle : ALes xs args) (hf : freeO sl d = true)
    (k : K ⟨lk' ((d, res) :: fl), ov sl (pushS S)⟩) : Stp P mu ops ⟨some d, .call ⟨.value (.func f), as, tys⟩, ty, pos, after, none⟩ ⟨lk' fl, ov sl (pushS S)⟩ K :=
  stp_call (hc.calls (ov sl (pushS S))) rfl hx (by simpa using hle) hf (fun _ _ => rfl) ⟨by simp, .inl rfl, fun m hm => absurd hm (hc.res0 m), by simp⟩ k

def killL (n : Nm) : FL → FL
  | [] => []
  | (t, .accv m) :: r => (t, killF n (.accv m)) :: killL n r
  | (t, v) :: r => (t, v) :: killL n r
theorem killL_lk (n : Nm) : ∀ fl : FL, (fun t => killF n (lk' fl t)) = lk' (killL n fl)
  | [] => by funext t; rfl
  | (s, v) :: r => by
    funext t
    have ih := congrFun (killL_lk n r) t
    have key : killF n (lk' ((s, v) :: r) t) = lk' ((s, killF n v) :: killL n r) t := by
      simp only [lk', lkO] at ih ⊢
      cases Nat.beq s t with
      | true => rfl
      | false => exact ih
    cases v <;> exact key

theorem srcE_win {e : TypeId} {m : Nm} {k : IntKind} {L : List Int} {off len cm : Nat} (hm : lkS sl m = some (.ints e k L)) (h : off + len ≤ L.length) : srcE (ov sl S) (.c (.win m off len cm)) k ((L.drop off).take len) :=
  ⟨e, .inl ⟨L, ov_of hm, h, rfl⟩⟩
theorem srcE_ints {k : IntKind} {L : List Int} : srcE S (.c (.ints k L)) k L := ⟨rfl, rfl⟩
theorem srcE_nil {k : IntKind} : srcE S nils k [] := rfl

theorem stp_app (hT : TOk P T) {s x : Operand} {tys : Array TypeId} {t e : TypeId} {as : Array Operand} {m : Nm} {k : IntKind} {L Y : List Int} {xv : AVal} (ha : as.toList = [s, x]) (ht : tys.toList = [t, t]) (hu : undT T t = some (.slice e)) (hc1 : celT T e = 1)
    (hz : zerT T e = some (.int k 0)) (hs : opO fl s = some (.accv m)) (hx : opO fl x = some xv) (hm : lkS sl m = some (.acc e k L)) (ho : m.isOut = false) (hY : srcE (ov sl S) xv k Y)
    {nb : Nat} (hb : bytT T e = some nb) (hl : (L.length + Y.length) * nb ≤ 140737488355328 ∧ L.length + Y.length ≤ maxLen) (kk : K ⟨lk' ((d, .accv m) :: killL m fl), ov ((m, .acc e k (L ++ Y)) :: sl) S⟩) :
    Stp P mu ops ⟨some d, .call ⟨.builtin .append, as, tys⟩, ty, pos, after, none⟩ ⟨lk' fl, ov sl S⟩ K := by
  refine ⟨⟨putF (fun t => killF m (lk' fl t)) (some d) (.accv m), upd (ov sl S) m (.acc e k (L ++ Y))⟩, ?_, by rw [killL_lk, putF_lk, upd_ov]; exact kk⟩
  refine ⟨d, .accv m, m, _, rfl, ?_, rfl⟩
  simp only [appE, ha, ht]
  have hb := hT.byt hb
  refine ⟨trivial, e, k, Y, hT.und hu, hT.cel hc1 (by simp), hT.zer hz, by rw [opO_look hx]; exact hY, ?_⟩
  rw [opO_look hs]
  exact ⟨trivial, rfl, L, ov_of hm, by rw [hb]; exact hl.1, hl.2, rfl, ho⟩

theorem stp_app0 (hT : TOk P T) {s x : Operand} {tys : Array TypeId} {t e : TypeId} {as : Array Operand} {k : IntKind} {Y : List Int} {xv : AVal} (ha : as.toList = [s, x]) (ht : tys.toList = [t, t]) (hu : undT T t = some (.slice e)) (hc1 : celT T e = 1)
    (hz : zerT T e = some (.int k 0)) (hs : opO fl s = some nils) (hx : opO fl x = some xv) (hf : freeO sl d = true) (hY : srcE (ov sl (pushS S)) xv k Y)
    {nb : Nat} (hb : bytT T e = some nb) (hl : Y.length * nb ≤ 140737488355328 ∧ Y.length ≤ maxLen) (kk : K ⟨lk' ((d, .accv (.loc d)) :: killL (.loc d) fl), ov ((.loc d, .acc e k Y) :: sl) (pushS S)⟩) :
    Stp P mu ops ⟨some d, .call ⟨.builtin .append, as, tys⟩, ty, pos, after, none⟩ ⟨lk' fl, ov sl (pushS S)⟩ K := by
  refine ⟨⟨putF (fun t => killF (.loc d) (lk' fl t)) (some d) (.accv (.loc d)), upd (ov sl (pushS S)) (.loc d) (.acc e k Y)⟩, ?_, by rw [killL_lk, putF_lk, upd_ov]; exact kk⟩
  refine ⟨d, .accv (.loc d), .loc d, _, rfl, ?_, rfl⟩
  simp only [appE, ha, ht]
  have hb := hT.byt hb
  refine ⟨trivial, e, k, Y, hT.und hu, hT.cel hc1 (by simp), hT.zer hz, by rw [opO_look hx]; exact hY, ?_⟩
  rw [opO_look hs]
  exact ⟨trivial, trivial, freeO_spec hf, by rw [hb]; exact hl.1, hl.2, rfl⟩

theorem stp_appR (hT : TOk P T) {s x : Operand} {tys : Array TypeId} {t e : TypeId} {as : Array Operand} {m : Nm} {k : IntKind} {L Y : List Int} {len cm : Nat} {xv : AVal} (ha : as.toList = [s, x]) (ht : tys.toList = [t, t]) (hu : undT T t = some (.slice e)) (hc1 : celT T e = 1)
    (hz : zerT T e = some (.int k 0)) (hs : opO fl s = some (.c (.win m 0 len cm))) (hx : opO fl x = some xv) (hm : lkS sl m = some (.ints e k L)) (hY : srcE (ov sl S) xv k Y)
    (hl : len + Y.length ≤ cm ∧ len + Y.length ≤ L.length) (kk : K ⟨lk' ((d, .c (.win m 0 (len + Y.length) cm)) :: killL m fl), ov ((m, .ints e k (L.take len ++ Y ++ L.drop (len + Y.length))) :: sl) S⟩) :
    Stp P mu ops ⟨some d, .call ⟨.builtin .append, as, tys⟩, ty, pos, after, none⟩ ⟨lk' fl, ov sl S⟩ K := by
  refine ⟨⟨putF (fun t => killF m (lk' fl t)) (some d) (.c (.win m 0 (len + Y.length) cm)), upd (ov sl S) m (.ints e k (L.take len ++ Y ++ L.drop (len + Y.length)))⟩, ?_, by rw [killL_lk, putF_lk, upd_ov]; exact kk⟩
  refine ⟨d, .c (.win m 0 (len + Y.length) cm), m, _, rfl, ?_, rfl⟩
  simp only [appE, ha, ht]
  refine ⟨trivial, e, k, Y, hT.und hu, hT.cel hc1 (by simp), hT.zer hz, by rw [opO_look hx]; exact hY, ?_⟩
  rw [opO_look hs]
  exact ⟨rfl, L, ov_of hm, hl.1, hl.2, rfl, rfl⟩

/-! ### In the midst of a region -/
def aw (P : Program) (_mu : FuncId → Bool) (N : Nat) (ops : Array Oper) (Q : Exit → St → Prop) (l : List Oper) (st : St) : Prop :=
  (∀ o ∈ l, ∀ t, o.dst = some t → t < N) → ∀ (B : Base) (w : World) (ρ : Nm → Nat) (a : Act), a.defers = [] → a.tmps.size = N → Inv B w ρ st a.tmps → wpList P ops (Ends B N Q) l a w

variable {Q : Exit → St → Prop} {st F : St}

theorem stp_id {o : Oper} {st : St} (h : Stp P mu ops o st K) : Stp P mu ops o st K := h
theorem aw_nil (h : Q .normal st) : aw P mu N ops Q [] st := fun _ _ _ ρ _ hd hn hi => ⟨hd, hn, st, ρ, hi, h⟩
theorem aw_cons {o : Oper} {l : List Oper} (h : Stp P mu ops o st (aw P mu N ops Q l)) : aw P mu N ops Q (o :: l) st := fun hb B w ρ a hd hn hi => by
  obtain ⟨st', hs, h⟩ := h
  refine wpList_step fun K hK => ?_
  refine aStep_sound hi.sim (fun t ht => by rw [hn]; exact hb o (by simp) t ht) hs (fun w' ρ' u X h1 h2 h3 => ?_)
  exact hK _ _ (h (fun o ho => hb o (by simp [ho])) B w' ρ' _ (by rw [put_defers]; exact hd) (by rw [put_size]; exact hn) (hi.step h1 h2 h3))
theorem aw_weak {l : List Oper} (F : St) (hw : Weak st F) (h : aw P mu N ops Q l F) : aw P mu N ops Q l st := fun hb B w ρ a hd hn hi => by
  obtain ⟨ρ', hi'⟩ := hi.weak hw
  exact h hb B w ρ' a hd hn hi'
theorem awp_reg {id : Nat} (h : aw P mu N ops Q ops.toList st) : awp P mu N (.region id ops false) Q st := fun hm hok B w ρ a hd hn hi => by
  simp only [okC, Bool.and_eq_true, List.all_eq_true] at hok
  have hb : ∀ o ∈ ops.toList, ∀ t, o.dst = some t → t < N := fun o ho t ht => by
    have := hok.1 o ho
    rw [ht] at this
    simpa using this
  exact wp_region_list (h hb B w ρ a hd hn hi)
theorem awp_draw {id : Nat} (h : aOps P mu ops ops.toList (Q .normal) st) (hl : (ne4 ops.toList || lexOK mu ops) = true) : awp P mu N (.region id ops true) Q st := awp_region h fun _ => hl
theorem aOps_nil {Q : St → Prop} (h : Q st) : aOps P mu ops [] Q st := h

/-! ### Codes -/
theorem thenA_n {K : St → Prop} (h : K st) : thenA K Q .normal st := h
theorem blockA_n {id : Nat} (h : Q .normal st) : blockA id Q .normal st := h
theorem blockA_r {id : Nat} (h : Q .ret st) : blockA id Q .ret st := h
theorem thenA_r {K : St → Prop} (h : Q .ret st) : thenA K Q .ret st := h
theorem thenA_x {K : St → Prop} {id : Nat} (h : Q (.exit id) st) : thenA K Q (.exit id) st := h
theorem blockA_hit {id id' : Nat} (e : Nat.beq id' id = true) (h : Q .normal st) : blockA id Q (.exit id') st := by
  have := Nat.eq_of_beq_eq_true e
  simp only [blockA, if_pos this]; exact h
theorem blockA_miss {id id' : Nat} (e : Nat.beq id' id = false) (h : Q (.exit id') st) : blockA id Q (.exit id') st := by
  have : ¬ id' = id := fun q => by subst q; simp [Nat.beq_refl] at e
  simp only [blockA, if_neg this]; exact h
theorem awp_ifT {c : Operand} {x y : Code} {S' : Store} (hc : opO fl c = some (bvl true)) (h : awp P mu N x Q ⟨lk' fl, S'⟩) : awp P mu N (.cond c x y) Q ⟨lk' fl, S'⟩ :=
  awp_cond (t := true) (opO_look hc) (fun _ => h) (fun e => by cases e)
theorem awp_ifF {c : Operand} {x y : Code} {S' : Store} (hc : opO fl c = some (bvl false)) (h : awp P mu N y Q ⟨lk' fl, S'⟩) : awp P mu N (.cond c x y) Q ⟨lk' fl, S'⟩ :=
  awp_cond (t := false) (opO_look hc) (fun e => by cases e) (fun _ => h)
theorem awp_if {c : Operand} {x y : Code} {S' : Store} {t : Bool} (hc : opO fl c = some (bvl t)) (h1 : t = true → awp P mu N x Q ⟨lk' fl, S'⟩) (h2 : t = false → awp P mu N y Q ⟨lk' fl, S'⟩) : awp P mu N (.cond c x y) Q ⟨lk' fl, S'⟩ :=
  awp_cond (opO_look hc) h1 h2

theorem awp_mid {c : Code} (Mid : St → Prop) (h : awp P mu N c (thenA Mid Q) st) (hk : ∀ st, Mid st → K st) : awp P mu N c (thenA K Q) st :=
  awp_mono h fun e st' hh => by cases e <;> first | exact hk _ hh | exact hh

theorem awp_midB {c : Code} {id : Nat} (Mid : St → Prop) (h : awp P mu N c (blockA id (thenA Mid Q)) st) (hk : ∀ st, Mid st → K st) : awp P mu N c (blockA id (thenA K Q)) st :=
  awp_mono h fun e st' hh => by
    cases e with
    | normal => exact hk _ hh
    | exit i =>
      simp only [blockA] at hh ⊢
      split
      · rename_i e; rw [if_pos e] at hh; exact hk _ hh
      · rename_i e; rw [if_neg e] at hh; exact hh
    | _ => exact hh

/-- A loop: J is kept, mu falls. -/
theorem awp_rep {c : Code} {ι : Type} (F : ι → St) (J : ι → Prop) (μ : ι → Nat) (i0 : ι) (hj : J i0) (h0 : Weak st (F i0))
    (hr : ∀ i, J i → awp P mu N c (thenA (fun st' => ∃ i', Weak st' (F i') ∧ J i' ∧ μ i' < μ i) Q) (F i)) : awp P mu N (.loop c) Q st := by
  refine awp_loop (ι := { i : ι // J i }) (fun i => F i.1) (fun i => μ i.1) ⟨i0, hj⟩ h0 (fun i => awp_mono (hr i.1 i.2) ?_)
  rintro e st' h
  cases e with
  | normal => obtain ⟨i', h1, h2, h3⟩ := h; exact ⟨⟨i', h2⟩, h1, h3⟩
  | _ => exact h
theorem awp_rep2 {c : Code} {α β : Type} (F : α → β → St) (J : α → β → Prop) (μ : α → β → Nat) (a0 : α) (b0 : β) (hj : J a0 b0) (h0 : Weak st (F a0 b0))
    (hr : ∀ a b, J a b → awp P mu N c (thenA (fun st' => ∃ a' b', Weak st' (F a' b') ∧ J a' b' ∧ μ a' b' < μ a b) Q) (F a b)) : awp P mu N (.loop c) Q st :=
  awp_rep (ι := α × β) (fun x => F x.1 x.2) (fun x => J x.1 x.2) (fun x => μ x.1 x.2) (a0, b0) hj h0 fun x hx =>
    awp_mid _ (hr x.1 x.2 hx) fun _ ⟨a', b', h⟩ => ⟨(a', b'), h⟩
theorem awp_rep3 {c : Code} {α β γ : Type} (F : α → β → γ → St) (J : α → β → γ → Prop) (μ : α → β → γ → Nat) (a0 : α) (b0 : β) (c0 : γ) (hj : J a0 b0 c0) (h0 : Weak st (F a0 b0 c0))
    (hr : ∀ a b d, J a b d → awp P mu N c (thenA (fun st' => ∃ a' b' d', Weak st' (F a' b' d') ∧ J a' b' d' ∧ μ a' b' d' < μ a b d) Q) (F a b d)) : awp P mu N (.loop c) Q st :=
  awp_rep (ι := α × β × γ) (fun x => F x.1 x.2.1 x.2.2) (fun x => J x.1 x.2.1 x.2.2) (fun x => μ x.1 x.2.1 x.2.2) (a0, b0, c0) hj h0 fun x hx =>
    awp_mid _ (hr x.1 x.2.1 x.2.2 hx) fun _ ⟨a', b', d', h⟩ => ⟨(a', b', d'), h⟩
theorem awp_rep4 {c : Code} {α β γ δ : Type} (F : α → β → γ → δ → St) (J : α → β → γ → δ → Prop) (μ : α → β → γ → δ → Nat) (a0 : α) (b0 : β) (c0 : γ) (d0 : δ) (hj : J a0 b0 c0 d0) (h0 : Weak st (F a0 b0 c0 d0))
    (hr : ∀ a b d e, J a b d e → awp P mu N c (thenA (fun st' => ∃ a' b' d' e', Weak st' (F a' b' d' e') ∧ J a' b' d' e' ∧ μ a' b' d' e' < μ a b d e) Q) (F a b d e)) : awp P mu N (.loop c) Q st :=
  awp_rep (ι := α × β × γ × δ) (fun x => F x.1 x.2.1 x.2.2.1 x.2.2.2) (fun x => J x.1 x.2.1 x.2.2.1 x.2.2.2) (fun x => μ x.1 x.2.1 x.2.2.1 x.2.2.2) (a0, b0, c0, d0) hj h0 fun x hx =>
    awp_mid _ (hr x.1 x.2.1 x.2.2.1 x.2.2.2 hx) fun _ ⟨a', b', d', e', h⟩ => ⟨(a', b', d', e'), h⟩
end
end Go.Abs

/-
  What is no longer written is told as it stands; names dropped.
-/
namespace Go.Abs
open Go

inductive FrzC0 (A B : Store) : Cell → Cell → Prop
  | keep {x : Cell} (h : ∀ m, x.at m → B m ≠ none) : FrzC0 A B x x
  | nilI {k : IntKind} : FrzC0 A B (.sc (.slice none 0 0)) (.ints k [])
  | junk {x : Cell} : FrzC0 A B x .junk
  | win {m : Nm} {off len cm : Nat} {ty : TypeId} {k : IntKind} {L L' : List Int} (hm : A m = some (.ints ty k L)) (hb : B m = none) (hl : off + len ≤ L.length) (e : L' = (L.drop off).take len) : FrzC0 A B (.win m off len cm) (.ints k L')
  | winc {m : Nm} {off len cm : Nat} {ty : TypeId} {k : IntKind} {L L' : List Int} (hm : A m = some (.ints ty k L)) (hb : B m = none) (hl : off + cm ≤ L.length) (e : L' = (L.drop off).take cm) : FrzC0 A B (.win m off len cm) (.intc k L' len)

inductive FrzC (A B : Store) : Cell → Cell → Prop
  | base {x y : Cell} (h : FrzC0 A B x y) : FrzC A B x y
  | ptr {m : Nm} {off : Nat} {ty : TypeId} {cs : List Cell} {ls : List Leaf} (hm : A m = some (.cells ty cs)) (hb : B m = none) (hl : ∀ j l, ls[j]? = some l → ∃ x, cs[off + j]? = some x ∧ FrzC0 A B x l.cell) : FrzC A B (.ptr m off) (.pim ls)

inductive FrzV (A B : Store) : AVal → AVal → Prop
  | c {x y : Cell} (h : FrzC A B x y) : FrzV A B (.c x) (.c y)
  | agg {xs ys : List Cell} (hl : xs.length = ys.length) (h : ∀ (i : Nat) (x y : Cell), xs[i]? = some x → ys[i]? = some y → FrzC A B x y) : FrzV A B (.agg xs) (.agg ys)
  | fn {f : FuncId} {xs : List Cell} (h : ∀ x ∈ xs, ∀ m, x.at m → B m ≠ none) : FrzV A B (.fn f xs) (.fn f xs)
  | accK {m : Nm} {o : AObj} (h1 : A m = some o) (h2 : B m = some o) : FrzV A B (.accv m) (.accv m)
  | acc {m : Nm} {ty : TypeId} {k : IntKind} {L : List Int} (hm : A m = some (.acc ty k L)) (hb : B m = none) : FrzV A B (.accv m) (.c (.ints k L))
  | nilA {m : Nm} {ty : TypeId} {k : IntKind} (hb : B m = some (.acc ty k [])) : FrzV A B (.c (.sc (.slice none 0 0))) (.accv m)

inductive FrzO (A B : Store) : AObj → AObj → Prop
  | ints {ty : TypeId} {k : IntKind} {L : List Int} : FrzO A B (.ints ty k L) (.ints ty k L)
  | acc {ty : TypeId} {k : IntKind} {L : List Int} : FrzO A B (.acc ty k L) (.acc ty k L)
  | cells {ty : TypeId} {xs ys : List Cell} (h : ∀ (i : Nat) (y : Cell), ys[i]? = some y → ∃ x, xs[i]? = some x ∧ FrzC A B x y) : FrzO A B (.cells ty xs) (.cells ty ys)

theorem FrzO.real {A B : Store} {o o' : AObj} (h : FrzO A B o o') : o.real = o'.real := by cases h <;> rfl

section
variable {w : World} {ρ : Nm → Nat} {A B : Store} {st F : St}

/-- B's names are among A's. -/
def Sub (A B : Store) : Prop := ∀ m o', B m = some o' → (∃ o, A m = some o ∧ FrzO A B o o') ∨ ((∀ o, A m = some o → o.isAcc = true) ∧ ∃ ty k, o' = .acc ty k [])

theorem IntsS.mono {G H : Nat → Prop} (h : ∀ b, G b → H b) {k : IntKind} {L : List Int} {n : Nat} {v : Value} (hv : IntsS w G k L n v) : IntsS w H k L n v := by
  obtain ⟨C, cap, e, h1, h2, h3⟩ := hv
  refine ⟨C, cap, e, h1, h2, fun hl => ?_⟩
  obtain ⟨b, off, e2, hf, hc⟩ := h3 hl
  exact ⟨b, off, e2, h _ hf, hc⟩
theorem LeafS.mono {G H : Nat → Prop} (h : ∀ b, G b → H b) {x : Leaf} {v : Value} (hv : LeafS w G x v) : LeafS w H x v := by
  cases x with
  | sc c => exact hv
  | ints k L => exact IntsS.mono h hv

theorem Sub.fr (h : Sub A B) {b : Nat} (hb : Fr w ρ A b) : Fr w ρ B b := ⟨hb.1, fun m o hm hr => by
  rcases h m o hm with ⟨o', h1, h2⟩ | ⟨hna, ty, k, rfl⟩
  · exact hb.2 m o' h1 (by rw [h2.real]; exact hr)
  · cases hr⟩

theorem Sub.gone (h : Sub A B) (he : EnvS w ρ A) {m : Nm} {o : AObj} (hm : A m = some o) (hr : o.real = true) (hb : B m = none) : Fr w ρ B (ρ m) :=
  ⟨he.lt hm hr, fun m' o' hm' hr' e => by
    rcases h m' o' hm' with ⟨o1, h1, h2⟩ | ⟨hna, ty, k, rfl⟩
    · have := he.inj m' m o1 o h1 hm (by rw [h2.real]; exact hr') hr e
      subst this
      rw [hb] at hm'; cases hm'
    · cases hr'⟩

theorem FrzC0.held (hs : Sub A B) (he : EnvS w ρ A) {x y : Cell} {u : Value} (h : FrzC0 A B x y) (hx : CellS w ρ A x u) : CellS w ρ B y u := by
  cases h with
  | keep h =>
    cases x with
    | sc v => exact hx
    | ints k L => exact IntsS.mono (fun b => hs.fr) hx
    | intc k L n => exact IntsS.mono (fun b => hs.fr) hx
    | seq sz L =>
      obtain ⟨C, cap, e, h1, h2, h3⟩ := hx
      refine ⟨C, cap, e, h1, h2, fun hl => ?_⟩
      obtain ⟨b, off, e2, hf, hc⟩ := h3 hl
      refine ⟨b, off, e2, hs.fr hf, fun i c j x h1 h2 => ?_⟩
      obtain ⟨u, a1, a2⟩ := hc i c j x h1 h2
      exact ⟨u, a1, a2.mono fun b => hs.fr⟩
    | win m off len cm =>
      obtain ⟨⟨o, ho, ha⟩, h2⟩ := hx
      refine ⟨?_, h2⟩
      cases e : B m with
      | none => exact absurd e (h m rfl)
      | some o' =>
        rcases hs m o' e with ⟨o1, h1, h3⟩ | ⟨hna, ty, k, rfl⟩
        · rw [ho] at h1; obtain rfl := Option.some.inj h1
          exact ⟨o', rfl, by cases h3 <;> first | rfl | exact ha⟩
        · rw [hna o ho] at ha; cases ha
    | ptr m off =>
      obtain ⟨⟨o, ho, ha⟩, h2⟩ := hx
      refine ⟨?_, h2⟩
      cases e : B m with
      | none => exact absurd e (h m rfl)
      | some o' =>
        rcases hs m o' e with ⟨o1, h1, h3⟩ | ⟨hna, ty, k, rfl⟩
        · rw [ho] at h1; obtain rfl := Option.some.inj h1
          exact ⟨o', rfl, by cases h3 <;> first | rfl | exact ha⟩
        · rw [hna o ho] at ha; cases ha
    | pim cs =>
      obtain ⟨b, off, e, hf, hc⟩ := hx
      refine ⟨b, off, e, hs.fr hf, fun j x hj => ?_⟩
      obtain ⟨u, a1, a2⟩ := hc j x hj
      exact ⟨u, a1, a2.mono fun b => hs.fr⟩
    | junk => trivial
  | nilI => exact ⟨none, 0, hx, Nat.le_refl _, Nat.le_refl _, fun h => by simp at h⟩
  | junk => trivial
  | win hm hb hl e =>
    rename_i m off len cm ty k L L'
    obtain ⟨-, C, cap, rfl, h1, h2, h3⟩ := hx
    have hlen : L'.length = len := by rw [e]; simp; omega
    refine ⟨C, cap, by rw [hlen], Nat.le_refl _, by omega, fun hp => ?_⟩
    obtain ⟨e1, -⟩ := h3 (by omega)
    refine ⟨ρ m, off, e1, hs.gone he hm rfl hb, fun i x hi => ?_⟩
    obtain ⟨vs, q1, q2⟩ := he.obj m _ hm
    have hi' : L[off + i]? = some x := by
      rw [e] at hi
      rcases Nat.lt_or_ge i len with q | q
      · rw [List.getElem?_take_of_lt q, List.getElem?_drop] at hi; exact hi
      · rw [List.getElem?_eq_none (by simp; omega)] at hi; cases hi
    rw [cell_of_heap q1]
    exact q2 _ _ hi'
  | winc hm hb hl e =>
    rename_i m off len cm ty k L L'
    obtain ⟨-, C, cap, rfl, h1, h2, h3⟩ := hx
    have hlen : L'.length = cm := by rw [e]; simp; omega
    refine ⟨C, cap, rfl, by omega, by omega, fun hp => ?_⟩
    obtain ⟨e1, -⟩ := h3 (by omega)
    refine ⟨ρ m, off, e1, hs.gone he hm rfl hb, fun i x hi => ?_⟩
    obtain ⟨vs, q1, q2⟩ := he.obj m _ hm
    have hi' : L[off + i]? = some x := by
      rw [e] at hi
      rcases Nat.lt_or_ge i cm with q | q
      · rw [List.getElem?_take_of_lt q, List.getElem?_drop] at hi; exact hi
      · rw [List.getElem?_eq_none (by simp; omega)] at hi; cases hi
    rw [cell_of_heap q1]
    exact q2 _ _ hi'

theorem FrzC0.leaf (hs : Sub A B) (he : EnvS w ρ A) {x : Cell} {l : Leaf} {u : Value} (h : FrzC0 A B x l.cell) (hx : CellS w ρ A x u) (ho : u.oneCell' = true) : LeafS w (Fr w ρ B) l u := by
  have := h.held hs he hx
  cases l with
  | sc v => have e : u = v := this; subst e; exact ⟨rfl, ho⟩
  | ints k L => exact this

theorem FrzC.held (hs : Sub A B) (he : EnvS w ρ A) {x y : Cell} {u : Value} (h : FrzC A B x y) (hx : CellS w ρ A x u) : CellS w ρ B y u := by
  cases h with
  | base h => exact h.held hs he hx
  | ptr hm hb hl =>
    rename_i m off ty cs ls
    obtain ⟨-, rfl⟩ := hx
    refine ⟨ρ m, off, rfl, hs.gone he hm rfl hb, fun j l hj => ?_⟩
    obtain ⟨x, h1, h2⟩ := hl j l hj
    obtain ⟨vs, q1, q2⟩ := he.obj m _ hm
    obtain ⟨u, q3, q4, q5⟩ := q2 _ _ h1
    exact ⟨u, by rw [cell_of_heap q1]; exact q3, h2.leaf hs he q5 q4⟩

theorem FrzV.held (hs : Sub A B) (he : EnvS w ρ A) {x y : AVal} {u : Value} (h : FrzV A B x y) (hx : VS w ρ A x u) : VS w ρ B y u := by
  cases h with
  | c h => exact h.held hs he hx
  | agg hl h =>
    obtain ⟨vs, rfl, h1, h2⟩ := hx
    refine ⟨vs, rfl, by omega, fun i y hy => ?_⟩
    rename_i xs ys
    have hlt : i < xs.length := by
      rcases Nat.lt_or_ge i ys.length with q | q
      · omega
      · rw [List.getElem?_eq_none q] at hy; cases hy
    obtain ⟨u, p1, p2, p3⟩ := h2 i _ (List.getElem?_eq_getElem hlt)
    exact ⟨u, p1, p2, (h i _ y (List.getElem?_eq_getElem hlt) hy).held hs he p3⟩
  | fn h =>
    obtain ⟨vs, rfl, h1, h2⟩ := hx
    refine ⟨vs, rfl, h1, fun i y hy => ?_⟩
    obtain ⟨u, p1, p2, p3⟩ := h2 i y hy
    exact ⟨u, p1, p2, FrzC0.held hs he (.keep (h y (List.mem_of_getElem? hy))) p3⟩
  | accK h1 h2 =>
    obtain ⟨ty, k, L, ho, h⟩ := hx
    rw [h1] at ho
    obtain rfl := Option.some.inj ho
    exact ⟨ty, k, L, h2, h⟩
  | acc hm hb =>
    rename_i m ty k L
    obtain ⟨ty', k', L2, ho, h⟩ := hx
    rw [hm] at ho
    simp only [Option.some.injEq, AObj.acc.injEq] at ho
    obtain ⟨rfl, rfl, rfl⟩ := ho
    rcases h with ⟨rfl, A', rfl⟩ | ⟨hne, cap, rfl, h1, h2, h3⟩
    · exact ⟨A', 0, rfl, Nat.le_refl _, Nat.le_refl _, fun h => by simp at h⟩
    · have hr : (AObj.acc ty k L).real = true := by cases L <;> first | exact absurd rfl hne | rfl
      refine ⟨_, cap, rfl, Nat.le_refl _, h1, fun hp => ⟨ρ m, 0, rfl, hs.gone he hm hr hb, fun i x hi => ?_⟩⟩
      rcases he.obj m _ hm with rfl | ⟨vs, q1, q2⟩
      · exact absurd rfl hne
      · rw [cell_of_heap q1, Nat.zero_add]; exact q2 _ _ hi
  | nilA hb => exact ⟨_, _, _, hb, .inl ⟨rfl, none, hx⟩⟩

theorem Weak.frz (hO : Sub st.sg F.sg) (hkeep : ∀ m, F.sg (.out m) = st.sg (.out m)) (hfr : ∀ t, F.fr t = .c .junk ∨ FrzV st.sg F.sg (st.fr t) (F.fr t)) : Weak st F := fun w ρ tm hs => by
  refine ⟨ρ, ⟨fun m m' o o' h1 h2 r1 r2 e => ?_, fun m o hm => ?_, fun t => ?_⟩, fun m o hm hr => ?_, fun m hm => ?_⟩
  · rcases hO m o h1 with ⟨q, a1, a2⟩ | ⟨-, ty, k, rfl⟩
    · rcases hO m' o' h2 with ⟨q', b1, b2⟩ | ⟨-, ty, k, rfl⟩
      · exact hs.inj m m' q q' a1 b1 (by rw [a2.real]; exact r1) (by rw [b2.real]; exact r2) e
      · cases r2
    · cases r1
  · rcases hO m o hm with ⟨q, a1, a2⟩ | ⟨-, ty, k, rfl⟩
    · have ho := hs.obj m q a1
      cases a2 with
      | ints => exact ho
      | acc => exact ho
      | cells h =>
        obtain ⟨vs, q1, q2⟩ := ho
        refine ⟨vs, q1, fun i y hy => ?_⟩
        obtain ⟨x, h1, h2⟩ := h i y hy
        obtain ⟨u, p1, p2, p3⟩ := q2 i x h1
        exact ⟨u, p1, p2, h2.held hO hs.env p3⟩
    · exact .inl rfl
  · rcases hfr t with e | h
    · rw [e]; trivial
    · exact h.held hO hs.env (hs.fr t)
  · rcases hO m o hm with ⟨q, a1, a2⟩ | ⟨-, ty, k, rfl⟩
    · exact ⟨m, q, a1, by rw [a2.real]; exact hr, rfl, fun _ => rfl⟩
    · cases hr
  · cases m <;> simp [Nm.isOut] at hm
    exact ⟨hkeep _, rfl⟩

/-! ### Told by lists -/
def FrzF (A B : Store) (fl : FL) : FL → Prop
  | [] => True
  | (t, v) :: r => (∃ u, lkO fl t = some u ∧ FrzV A B u v) ∧ FrzF A B fl r
theorem FrzF.at {fl : FL} : ∀ {r : FL}, FrzF A B fl r → ∀ t v, lkO r t = some v → ∃ u, lkO fl t = some u ∧ FrzV A B u v
  | (s, v) :: r, ⟨h1, h2⟩, t, v', h => by
    simp only [lkO] at h
    split at h
    · rename_i e
      have := Nat.eq_of_beq_eq_true e
      subst this
      obtain rfl := Option.some.inj h
      exact h1
    · exact FrzF.at h2 t v' h

def outsL : SL → SL
  | [] => []
  | (.out m, o) :: r => (.out m, o) :: outsL r
  | _ :: r => outsL r
theorem outsL_lk (m : Nm) : ∀ sl : SL, lkS (outsL sl) (.out m) = lkS sl (.out m)
  | [] => rfl
  | (.out n, o) :: r => by simp only [outsL, lkS]; rw [outsL_lk m r]
  | (.loc n, o) :: r => by simp only [outsL, lkS]; rw [outsL_lk m r]; simp
  | (.new, o) :: r => by simp only [outsL, lkS]; rw [outsL_lk m r]; simp
  | (.fam n i, o) :: r => by simp only [outsL, lkS]; rw [outsL_lk m r]; simp

/-- The store's own part. -/
def FrzS (A B : Store) : SL → Prop
  | [] => True
  | (m, o') :: r => ((∃ o, A m = some o ∧ FrzO A B o o') ∨ ((∀ o, A m = some o → o.isAcc = true) ∧ ∃ ty k, o' = .acc ty k [])) ∧ FrzS A B r
theorem FrzS.at : ∀ {r : SL}, FrzS A B r → ∀ m o', lkS r m = some o' → (∃ o, A m = some o ∧ FrzO A B o o') ∨ ((∀ o, A m = some o → o.isAcc = true) ∧ ∃ ty k, o' = .acc ty k [])
  | (n, o) :: r, ⟨h1, h2⟩, m, o', h => by
    simp only [lkS] at h
    split at h
    · rename_i e; subst e; obtain rfl := Option.some.inj h; exact h1
    · exact FrzS.at h2 m o' h

theorem frz {fl fl' : FL} {sl sl' : SL} {S : Store} (hS : ∀ n b, S n = some b → b.cl S) (ho : outsL sl' = outsL sl) (hs : FrzS (ov sl (pushS S)) (ov sl' (pushS S)) sl') (hf : FrzF (ov sl (pushS S)) (ov sl' (pushS S)) fl fl') :
    Weak ⟨lk' fl, ov sl (pushS S)⟩ ⟨lk' fl', ov sl' (pushS S)⟩ := by
  have hout : ∀ m, lkS sl' (.out m) = lkS sl (.out m) := fun m => by rw [← outsL_lk, ho, outsL_lk]
  refine Weak.frz (fun m o' hm => ?_) (fun m => ?_) (fun t => ?_)
  · simp only [ov] at hm
    split at hm
    · rename_i o1 h1
      obtain rfl := Option.some.inj hm
      exact hs.at m _ h1
    · rename_i h1
      obtain ⟨q, b, rfl, hb, rfl⟩ := pushS_some hm
      refine .inl ⟨b.map .out, by simp only [ov]; rw [← hout, h1]; exact hm, ?_⟩
      cases b with
      | ints ty k L => exact .ints
      | acc ty k L => exact .acc
      | cells ty cs =>
        refine .cells fun i y hy => ⟨y, hy, .base (.keep fun m hm' => ?_)⟩
        have hy := List.mem_of_getElem? hy
        obtain ⟨z, hz, rfl⟩ := List.mem_map.1 hy
        obtain ⟨n, hn, rfl⟩ := Cell.map_at hm'
        have := hS q _ hb z hz n hn
        simp only [ov]
        split
        · simp
        · simp only [pushS]
          cases e : S n with
          | none => exact absurd e this
          | some z => simp
  · simp only [ov, hout]
  · show (lk' fl' t) = _ ∨ _
    simp only [lk']
    cases e : lkO fl' t with
    | none => exact .inl rfl
    | some v =>
      obtain ⟨u, h1, h2⟩ := hf.at t v e
      rw [h1]
      exact .inr h2

end
end Go.Abs

/-
  Contracts from bodies, told by lists.
-/
namespace Go.Abs
open Go

section
variable {P : Program} {mu : FuncId → Bool} {N : Nat} {Q : Exit → St → Prop} {st : St}

theorem awp_post {c : Code} (h : awp P mu N c (fun e st => ∃ F, Weak st F ∧ Q e F) st) : awp P mu N c Q st := fun hm hok B w ρ a hd hn hi =>
  Code.wp_mono (fun e a w ⟨h1, h2, st', ρ', h3, F, h4, h5⟩ => by
    obtain ⟨ρ2, h6⟩ := h3.weak h4
    exact ⟨h1, h2, F, ρ2, h6, h5⟩) (h hm hok B w ρ a hd hn hi)

theorem Cell.map_nm0 {φ : Nm → Nm} {x : Cell} (h : ∀ m, ¬ x.at m) : x.map φ = x := by
  cases x <;> first | rfl | exact absurd rfl (h _)
theorem Cell.maps_nm0 {φ : Nm → Nm} {cs : List Cell} (h : ∀ x ∈ cs, ∀ m, ¬ x.at m) : cs.map (·.map φ) = cs := by
  conv => rhs; rw [← List.map_id cs]
  exact List.map_congr_left fun x hx => Cell.map_nm0 (h x hx)
theorem AVal.map1_nm0 {φ : Nm → Nm} {x : AVal} (h : ∀ m, ¬ x.at1 m) : x.map1 φ = x := by
  cases x with
  | c x => simp only [AVal.map1, Cell.map_nm0 (x := x) h]
  | agg cs => simp only [AVal.map1, Cell.maps_nm0 (cs := cs) fun x hx m hm => h m ⟨x, hx, hm⟩]
  | fn f cs => simp only [AVal.map1, Cell.maps_nm0 (cs := cs) fun x hx m hm => h m ⟨x, hx, hm⟩]
  | accv m => exact absurd rfl (h m)
  | tup xs => rfl
theorem AVal.map_nm0 {φ : Nm → Nm} {x : AVal} (h : nm0 x) : x.map φ = x := by
  cases x with
  | tup xs =>
    have : xs.map (·.map1 φ) = xs := by
      conv => rhs; rw [← List.map_id xs]
      exact List.map_congr_left fun x hx => AVal.map1_nm0 fun m hm => h m ⟨x, hx, hm⟩
    simp only [AVal.map, this]
  | c x => exact AVal.map1_nm0 (x := .c x) h
  | agg x => exact AVal.map1_nm0 (x := .agg x) h
  | fn f x => exact AVal.map1_nm0 (x := .fn f x) h
  | accv m => exact absurd rfl (h m)

def entryL : Nat → List AVal → FL
  | _, [] => []
  | n, x :: xs => (n, x) :: entryL (n + 1) xs
theorem entryL_lk : ∀ (xs : List AVal) (n t : Nat), lkO (entryL n xs) t = if n ≤ t then xs[t - n]? else none
  | [], n, t => by simp [entryL, lkO]
  | x :: xs, n, t => by
    simp only [entryL, lkO]
    by_cases e : n = t
    · subst e; simp [Nat.beq_refl]
    · have : Nat.beq n t = false := by
        cases q : Nat.beq n t with
        | false => rfl
        | true => exact absurd (Nat.eq_of_beq_eq_true q) e
      rw [this]
      simp only
      rw [entryL_lk xs (n + 1) t]
      by_cases h : n ≤ t
      · rw [if_pos (by omega), if_pos h, show t - n = (t - (n + 1)) + 1 by omega, List.getElem?_cons_succ]
      · rw [if_neg (by omega), if_neg h]

/-- What the results' places hold. -/
def resL (T : TT) (fl : FL) : List ResultVar → Option (List AVal)
  | [] => some []
  | .tmp t :: r => match lkO fl t, resL T fl r with
    | some v, some vs => some (v :: vs)
    | _, _ => none
  | .cell a t :: r => match lkO fl a, agT T t, celT T t, resL T fl r with
    | some (.c (.pim cs)), some true, n + 1, some vs => match Nat.ble (n + 1) cs.length with
      | true => some (.agg ((cs.take (n + 1)).map Leaf.cell) :: vs)
      | false => none
    | _, _, _, _ => none
theorem resL_spec {T : TT} (hT : TOk P T) {S : Store} {fl : FL} : ∀ {rs : List ResultVar} {vs : List AVal}, resL T fl rs = some vs → ressE P ⟨lk' fl, S⟩ rs vs
  | [], vs, h => by simp only [resL, Option.some.injEq] at h; exact h.symm
  | .tmp t :: r, vs, h => by
    simp only [resL] at h
    split at h
    · rename_i v vs' h1 h2
      exact ⟨v, vs', (lkO_look h1).symm, resL_spec hT h2, (Option.some.inj h).symm⟩
    · cases h
  | .cell a t :: r, vs, h => by
    simp only [resL] at h
    split at h
    · rename_i cs n vs' h1 h2 h3 h4
      split at h
      · rename_i h5
        have h5 := Nat.le_of_ble_eq_true h5
        have h3 := hT.cel h3 (by simp)
        refine ⟨_, vs', ?_, resL_spec hT h4, (Option.some.inj h).symm⟩
        simp only [resE]
        rw [lkO_look h1]
        exact .inl ⟨hT.ag h2, by omega, by omega, by rw [h3]⟩
      · cases h
    · cases h

def flatL : List AVal → Bool
  | [] => true
  | [_] => true
  | xs => xs.all fun x => match x with | .tup _ => false | .accv _ => false | _ => true
theorem flatL_spec {xs : List AVal} (h : flatL xs = true) : ∀ x ∈ xs, xs.length = 1 ∨ (x.flat ∧ ∀ m, x ≠ .accv m) := by
  intro x hx
  match xs, h with
  | [_], _ => exact .inl rfl
  | a :: b :: r, h =>
    refine .inr ?_
    have := List.all_eq_true.1 h x hx
    cases x <;> first | (cases this; done) | exact ⟨trivial, fun m q => by cases q⟩

theorem undef_weak {fl : FL} {fr : Fram} {S : Store} (h : ∀ t v, lkO fl t = some v → fr t = v) : Weak ⟨fr, S⟩ ⟨lk' fl, S⟩ := fun w ρ tm hs => by
  refine ⟨ρ, ⟨hs.inj, hs.obj, fun t => ?_⟩, fun m o hm hr => ⟨m, o, hm, hr, rfl, fun _ => rfl⟩, fun _ _ => ⟨rfl, rfl⟩⟩
  simp only [lk']
  cases e : lkO fl t with
  | none => trivial
  | some v => have : VS w ρ S (fr t) (tm.getD t undef) := hs.fr t; rw [h t v e] at this; exact this

/-- Where a function begins. -/
theorem entry_weak (args : List AVal) (S : Store) : Weak ⟨entryF args, pushS S⟩ ⟨lk' (entryL 0 (args.map (·.map .out))), ov [] (pushS S)⟩ :=
  undef_weak (S := pushS S) fun t v h => by
    rw [entryL_lk] at h
    simp only [Nat.zero_le, if_true, Nat.sub_zero, List.getElem?_map, Option.map_eq_some_iff] at h
    obtain ⟨x, h1, h2⟩ := h
    simp only [entryF, h1, h2]

theorem ov_self {sl : SL} {S : Store} (h : ∀ m o, lkS sl m = some o → S m = some o) : ov sl S = S := by
  funext m
  simp only [ov]
  split
  · rename_i o e; exact (h m o e).symm
  · rfl

/-- The end of a function that writes nothing. -/
def EndF (P : Program) (fn : Func) (S : Store) (res : AVal) (e : Exit) (st : St) : Prop :=
  (e = .normal ∨ e = .ret) ∧ ∃ T fl vs, TOk P T ∧ Weak st ⟨lk' fl, ov [] (pushS S)⟩ ∧ resL T fl fn.results.toList = some vs ∧ flatL vs = true ∧ oneR vs = res

theorem afun {f : FuncId} {fn : Func} {c : Code} {args : List AVal} {res : AVal} (hf : P.funcs[f]? = some fn) (hb : fn.body = some c) (hname : (fn.name == "runtime.NumGoroutine") = false)
    (hm : P.follows .mixedOrders = true) (hok : okC fn.ntmps mu c = true) (hl : args.length ≤ fn.ntmps) (ha : ∀ x ∈ args, nm0 x) (hr : nm0 res)
    (h : ∀ S, (∀ n b, S n = some b → b.cl S) → awp P mu fn.ntmps c (EndF P fn S res) ⟨lk' (entryL 0 args), ov [] (pushS S)⟩) : AFun P f args res := by
  refine ⟨fun Φ => acalls hf hb hname hm hok hl fun n S _ hn hcl => ?_, hr, ha⟩
  refine awp_weak _ (entry_weak args S) ?_
  have e1 : args.map (·.map .out) = args := by
    conv => rhs; rw [← List.map_id args]
    exact List.map_congr_left fun x hx => AVal.map_nm0 (ha x hx)
  rw [e1]
  refine awp_post (awp_mono (h S hcl) ?_)
  rintro e st ⟨he, T, fl, vs, hT, h1, h2, h3, h4⟩
  refine ⟨_, h1, he, vs, .new, resL_spec hT h2, flatL_spec h3, rfl, ?_, fun m hm => absurd hm (hr m), by rw [h4, AVal.map_nm0 hr]⟩
  have hne : ∀ m, S m ≠ none → m ≠ n := fun m hm e => hm (by rw [e]; exact hn)
  refine ⟨fun m m' h1 h2 e => ?_, fun m o hm => ?_, fun m o hm => hcl m o hm⟩
  · rw [if_neg (hne m h1), if_neg (hne m' h2)] at e; injection e
  · have hm' : S m = some o := hm
    have e0 : o.cl S → (o.map fun m => if m = n then .new else .out m) = o.map .out := by
      intro hc
      cases o with
      | ints ty k L => rfl
      | acc ty k L => rfl
      | cells ty cs =>
        simp only [AObj.map]
        congr 1
        refine List.map_congr_left fun x hx => ?_
        cases x <;> simp only [Cell.map]
        · rename_i q _ _ _; rw [if_neg (hne q (hc _ hx q rfl))]
        · rename_i q _; rw [if_neg (hne q (hc _ hx q rfl))]
    rw [e0 (hcl m o hm')]
    show ov [] (pushS S) _ = _
    simp only [ov, lkS, if_neg (hne m (by rw [hm']; simp)), pushS, hm']
    rfl
theorem endF {T : TT} (hT : TOk P T) {fn : Func} {S : Store} {res : AVal} {e : Exit} {fl fl' : FL} {sl : SL} {vs : List AVal} (he : e = .normal ∨ e = .ret) (hS : ∀ n b, S n = some b → b.cl S) (ho : outsL sl = []) (hf : FrzF (ov sl (pushS S)) (ov [] (pushS S)) fl fl')
    (hr : resL T fl' fn.results.toList = some vs) (hfl : flatL vs = true) (h1 : oneR vs = res) : EndF P fn S res e ⟨lk' fl, ov sl (pushS S)⟩ :=
  ⟨he, T, fl', vs, hT, frz hS (by rw [ho]; rfl) trivial hf, hr, hfl, h1⟩

theorem kI {A B : Store} {k : IntKind} {L L' : List Int} (h : L = L') : FrzV A B (.c (.ints k L)) (.c (.ints k L')) := by
  subst h; exact .c (.base (.keep (fun m h => h.elim)))
theorem kN {A B : Store} {k : IntKind} {n n' : Int} (h : n = n') : FrzV A B (ivl k n) (ivl k n') := by
  subst h; exact .c (.base (.keep (fun m h => h.elim)))
theorem kW {A B : Store} {m : Nm} {off len cm : Nat} {ty : TypeId} {k : IntKind} {L L' : List Int} (hm : A m = some (.ints ty k L)) (hb : B m = none) (hl : off + len ≤ L.length) (e : (L.drop off).take len = L') :
    FrzV A B (.c (.win m off len cm)) (.c (.ints k L')) := .c (.base (.win hm hb hl e.symm))
theorem kS {A B : Store} {v : Value} : FrzV A B (.c (.sc v)) (.c (.sc v)) := .c (.base (.keep (fun m h => h.elim)))
theorem kX {A B : Store} {x : Cell} (h : ∀ m, x.at m → B m ≠ none) : FrzV A B (.c x) (.c x) := .c (.base (.keep h))
theorem kJ {A B : Store} {k : IntKind} : FrzV A B nils (.c (.ints k [])) := .c (.base .nilI)
theorem kWin {A B : Store} {m : Nm} {off len cm off' len' cm' : Nat} (hb : B m ≠ none) (h1 : off = off') (h2 : len = len') (h3 : cm = cm') : FrzV A B (.c (.win m off len cm)) (.c (.win m off' len' cm')) := by
  subst h1; subst h2; subst h3; exact .c (.base (.keep (fun q h => by have e : m = q := h; rw [← e]; exact hb)))
theorem kO {A B : Store} {ty : TypeId} {k : IntKind} {L L' : List Int} (h : L = L') : FrzO A B (.ints ty k L) (.ints ty k L') := by subst h; exact .ints
theorem kA {A B : Store} {ty : TypeId} {k : IntKind} {L L' : List Int} (h : L = L') : FrzO A B (.acc ty k L) (.acc ty k L') := by subst h; exact .acc
end
end Go.Abs

/-
  Limbs reckoned with: steps told in natural numbers.
-/
namespace Go.Abs
open Go

theorem wrap_u64 (n : Nat) : IntKind.u64.wrap (n : Int) = ((n % 18446744073709551616 : Nat) : Int) := by
  simp [IntKind.wrap, IntKind.bits, IntKind.signed]
theorem wrap_u64i (n : Int) : IntKind.u64.wrap n = n % 18446744073709551616 := by
  simp [IntKind.wrap, IntKind.bits, IntKind.signed]
theorem bv_nat (n : Nat) : (BitVec.ofInt IntKind.u64.bits (n : Int)).toNat = n % 18446744073709551616 := by
  simp [IntKind.bits]

section
variable {P : Program} {mu : FuncId → Bool} {ops : Array Oper} {fl : FL} {K : St → Prop} {S' : Store} {d : Nat} {ty : TypeId} {pos : String} {after : Array Edge} {t0 t1 : TypeId} {x y : Operand} {k' : IntKind} {a b : Int}

theorem stp_of {op : BinOp} {k : IntKind} {v : AVal} (hx : opO fl x = some (ivl k a)) (hy : opO fl y = some (ivl k' b)) (h : binE P op t0 (ivl k a) (ivl k' b) v) (kk : K ⟨lk' ((d, v) :: fl), S'⟩) :
    Stp P mu ops ⟨some d, .binOp op t0 x y t1, ty, pos, after, none⟩ ⟨lk' fl, S'⟩ K :=
  ⟨⟨putF (lk' fl) (some d) v, S'⟩, ⟨_, S', ⟨by simp only [PE]; rw [opO_look hx, opO_look hy]; exact h, rfl⟩, rfl⟩, by rw [putF_lk]; exact kk⟩

/-- A product of bounded ones. -/
theorem stp_mul (A C : Int) (hx : opO fl x = some (ivl .u64 a)) (hy : opO fl y = some (ivl .u64 b)) (ha : 0 ≤ a ∧ a ≤ A) (hb : 0 ≤ b ∧ b ≤ C) (hAC : A * C < 18446744073709551616)
    (kk : ∀ p, p = a * b → 0 ≤ p → p ≤ A * C → K ⟨lk' ((d, ivl .u64 p) :: fl), S'⟩) : Stp P mu ops ⟨some d, .binOp .mul t0 x y t1, ty, pos, after, none⟩ ⟨lk' fl, S'⟩ K := by
  have h0 : 0 ≤ a * b := Int.mul_nonneg ha.1 hb.1
  have h1 : a * b ≤ A * C := Int.le_trans (Int.mul_le_mul_of_nonneg_right ha.2 hb.1) (Int.mul_le_mul_of_nonneg_left hb.2 (Int.le_trans ha.1 ha.2))
  refine stp_of hx hy ?_ (kk _ rfl h0 h1)
  simp only [binE, isShift]
  exact ⟨trivial, by rw [show intE .mul .u64 a b _ = (_ = ivl .u64 (IntKind.u64.wrap (a * b))) from rfl, wrap_in (k := .u64) ⟨h0, by omega⟩]⟩

theorem stp_mulW (m n : Nat) (hx : opO fl x = some (ivl .u64 a)) (hy : opO fl y = some (ivl .u64 b)) (ha : a = m) (hb : b = n) (kk : K ⟨lk' ((d, ivl .u64 ((m * n % 18446744073709551616 : Nat) : Int)) :: fl), S'⟩) :
    Stp P mu ops ⟨some d, .binOp .mul t0 x y t1, ty, pos, after, none⟩ ⟨lk' fl, S'⟩ K := by
  subst ha; subst hb
  refine stp_of hx hy ?_ kk
  simp only [binE, isShift]
  exact ⟨trivial, by rw [show intE .mul .u64 (m : Int) n _ = (_ = ivl .u64 (IntKind.u64.wrap ((m : Int) * n))) from rfl, ← Int.natCast_mul, wrap_u64]⟩

theorem stp_mulN (m n : Nat) (hx : opO fl x = some (ivl .u64 a)) (hy : opO fl y = some (ivl .u64 b)) (ha : a = m) (hb : b = n) (h : m * n < 18446744073709551616) (kk : K ⟨lk' ((d, ivl .u64 ((m * n : Nat) : Int)) :: fl), S'⟩) :
    Stp P mu ops ⟨some d, .binOp .mul t0 x y t1, ty, pos, after, none⟩ ⟨lk' fl, S'⟩ K :=
  stp_mulW m n hx hy ha hb (by rw [Nat.mod_eq_of_lt h]; exact kk)

theorem stp_quoN {m n : Nat} (hx : opO fl x = some (ivl .u64 (m : Int))) (hy : opO fl y = some (ivl .u64 (n : Int))) (h : m < 18446744073709551616 ∧ n ≠ 0) (kk : K ⟨lk' ((d, ivl .u64 ((m / n : Nat) : Int)) :: fl), S'⟩) :
    Stp P mu ops ⟨some d, .binOp .quo t0 x y t1, ty, pos, after, none⟩ ⟨lk' fl, S'⟩ K := by
  refine stp_of hx hy ?_ kk
  simp only [binE, isShift]
  have hle := Nat.div_le_self m n
  refine ⟨trivial, show (n : Int) ≠ 0 ∧ _ = ivl .u64 (IntKind.u64.wrap ((m : Int).tdiv n)) from ⟨by omega, ?_⟩⟩
  rw [Int.tdiv_eq_ediv_of_nonneg (Int.natCast_nonneg _), ← Int.natCast_ediv, wrap_u64, Nat.mod_eq_of_lt (by omega)]
theorem stp_remN {m n : Nat} (hx : opO fl x = some (ivl .u64 (m : Int))) (hy : opO fl y = some (ivl .u64 (n : Int))) (h : n ≠ 0) (kk : K ⟨lk' ((d, ivl .u64 ((m % n : Nat) : Int)) :: fl), S'⟩) :
    Stp P mu ops ⟨some d, .binOp .rem t0 x y t1, ty, pos, after, none⟩ ⟨lk' fl, S'⟩ K := by
  refine stp_of hx hy ?_ kk
  simp only [binE, isShift]
  refine ⟨trivial, show (n : Int) ≠ 0 ∧ _ = ivl .u64 ((m : Int).tmod n) from ⟨by omega, ?_⟩⟩
  rw [Int.tmod_eq_emod_of_nonneg (Int.natCast_nonneg _), ← Int.natCast_emod]

theorem stp_addW (hx : opO fl x = some (ivl .u64 a)) (hy : opO fl y = some (ivl .u64 b)) (kk : K ⟨lk' ((d, ivl .u64 ((a + b) % 18446744073709551616)) :: fl), S'⟩) :
    Stp P mu ops ⟨some d, .binOp .add t0 x y t1, ty, pos, after, none⟩ ⟨lk' fl, S'⟩ K := by
  refine stp_of hx hy ?_ kk
  simp only [binE, isShift]
  exact ⟨trivial, by rw [← wrap_u64i]; rfl⟩
theorem stp_subW (hx : opO fl x = some (ivl .u64 a)) (hy : opO fl y = some (ivl .u64 b)) (kk : K ⟨lk' ((d, ivl .u64 ((a - b) % 18446744073709551616)) :: fl), S'⟩) :
    Stp P mu ops ⟨some d, .binOp .sub t0 x y t1, ty, pos, after, none⟩ ⟨lk' fl, S'⟩ K := by
  refine stp_of hx hy ?_ kk
  simp only [binE, isShift]
  exact ⟨trivial, by rw [← wrap_u64i]; rfl⟩

/-- The lower half. -/
theorem stp_mask (hx : opO fl x = some (ivl .u64 a)) (hy : opO fl y = some (ivl .u64 4294967295)) (h0 : 0 ≤ a) (kk : K ⟨lk' ((d, ivl .u64 (a % 4294967296)) :: fl), S'⟩) :
    Stp P mu ops ⟨some d, .binOp .and t0 x y t1, ty, pos, after, none⟩ ⟨lk' fl, S'⟩ K := by
  obtain ⟨n, rfl⟩ := Int.eq_ofNat_of_zero_le h0
  refine stp_of hx hy ?_ kk
  simp only [binE, isShift]
  refine ⟨trivial, ?_⟩
  rw [show intE .and .u64 (n : Int) 4294967295 _ = (_ = ivl .u64 (IntKind.u64.wrap (BitVec.ofInt IntKind.u64.bits (n : Int) &&& BitVec.ofInt IntKind.u64.bits 4294967295).toNat)) from rfl]
  rw [wrap_u64, BitVec.toNat_and, bv_nat, show ((4294967295 : Int)) = ((4294967295 : Nat) : Int) from rfl, bv_nat, show 4294967295 % 18446744073709551616 = 2 ^ 32 - 1 from rfl, Nat.and_two_pow_sub_one_eq_mod]
  congr 3
  omega

theorem stp_orN (m n : Nat) (hx : opO fl x = some (ivl .u64 a)) (hy : opO fl y = some (ivl .u64 b)) (ha : a = m) (hb : b = n) (hm : m < 18446744073709551616) (hn : n < 18446744073709551616) (kk : K ⟨lk' ((d, ivl .u64 ((m ||| n : Nat) : Int)) :: fl), S'⟩) :
    Stp P mu ops ⟨some d, .binOp .or t0 x y t1, ty, pos, after, none⟩ ⟨lk' fl, S'⟩ K := by
  subst ha; subst hb
  refine stp_of hx hy ?_ kk
  simp only [binE, isShift]
  refine ⟨trivial, ?_⟩
  rw [show intE .or .u64 (m : Int) n _ = (_ = ivl .u64 (IntKind.u64.wrap (BitVec.ofInt IntKind.u64.bits (m : Int) ||| BitVec.ofInt IntKind.u64.bits n).toNat)) from rfl]
  rw [wrap_u64, BitVec.toNat_or, bv_nat, bv_nat, Nat.mod_eq_of_lt hm, Nat.mod_eq_of_lt hn, Nat.mod_eq_of_lt (show m ||| n < 2 ^ 64 from Nat.or_lt_two_pow hm hn)]

theorem stp_shlN (m s : Nat) (hx : opO fl x = some (ivl .u64 a)) (hy : opO fl y = some (ivl k' b)) (ha : a = m) (hb : b = s) (kk : K ⟨lk' ((d, ivl .u64 ((m * 2 ^ s % 18446744073709551616 : Nat) : Int)) :: fl), S'⟩) :
    Stp P mu ops ⟨some d, .binOp .shl t0 x y t1, ty, pos, after, none⟩ ⟨lk' fl, S'⟩ K := by
  subst ha; subst hb
  refine stp_of hx hy ?_ kk
  simp only [binE, isShift, if_true]
  refine ⟨Int.natCast_nonneg _, ?_⟩
  rw [Int.toNat_natCast, show ((m : Int) * 2 ^ (min s IntKind.u64.bits)) = ((m * 2 ^ (min s 64) : Nat) : Int) by simp [IntKind.bits], wrap_u64]
  suffices hh : m * 2 ^ s % 18446744073709551616 = m * 2 ^ min s 64 % 18446744073709551616 by rw [hh]
  rcases Nat.lt_or_ge s 64 with h | h
  · rw [Nat.min_eq_left (by omega)]
  · rw [Nat.min_eq_right h]
    have e : 2 ^ s = 2 ^ 64 * 2 ^ (s - 64) := by rw [← Nat.pow_add]; congr 1; omega
    rw [e, Nat.mul_left_comm, Nat.mul_comm m]
    rw [show (18446744073709551616 : Nat) = 2 ^ 64 from rfl, Nat.mul_mod_right, Nat.mul_mod_left]

theorem stp_shrN (m s : Nat) (hx : opO fl x = some (ivl .u64 a)) (hy : opO fl y = some (ivl k' b)) (ha : a = m) (hb : b = s) (hm : m < 18446744073709551616) (kk : K ⟨lk' ((d, ivl .u64 ((m / 2 ^ s : Nat) : Int)) :: fl), S'⟩) :
    Stp P mu ops ⟨some d, .binOp .shr t0 x y t1, ty, pos, after, none⟩ ⟨lk' fl, S'⟩ K := by
  subst ha; subst hb
  refine stp_of hx hy ?_ kk
  simp only [binE, isShift, if_true]
  refine ⟨Int.natCast_nonneg _, ?_⟩
  rw [Int.toNat_natCast, Int.fdiv_eq_ediv_of_nonneg _ (Int.le_of_lt (Int.pow_pos (by decide))), show ((2 : Int) ^ (min s IntKind.u64.bits)) = ((2 ^ (min s 64) : Nat) : Int) by simp [IntKind.bits], ← Int.natCast_ediv]
  suffices hh : m / 2 ^ s = m / 2 ^ min s 64 by rw [hh]
  rcases Nat.lt_or_ge s 64 with h | h
  · rw [Nat.min_eq_left (by omega)]
  · rw [Nat.min_eq_right h, Nat.div_eq_of_lt (Nat.lt_of_lt_of_le hm (by show 2 ^ 64 ≤ 2 ^ s; exact Nat.pow_le_pow_right (by decide) h)), Nat.div_eq_of_lt hm]

def p2T : Int → Option Int
  | .ofNat 1 => some 2
  | .ofNat 8 => some 256
  | .ofNat 16 => some 65536
  | .ofNat 32 => some 4294967296
  | _ => none
theorem p2T_spec {s c : Int} (h : p2T s = some c) : (2 : Int) ^ (min s.toNat IntKind.u64.bits) = c ∧ 0 ≤ s := by
  unfold p2T at h
  split at h <;> first | cases h; done | (obtain rfl := Option.some.inj h; exact ⟨by decide, by decide⟩)

/-- A shift by a written number. -/
theorem stp_shrC {c : Int} (hx : opO fl x = some (ivl .u64 a)) (hy : opO fl y = some (ivl k' b)) (hc : p2T b = some c) (kk : K ⟨lk' ((d, ivl .u64 (a / c)) :: fl), S'⟩) :
    Stp P mu ops ⟨some d, .binOp .shr t0 x y t1, ty, pos, after, none⟩ ⟨lk' fl, S'⟩ K := by
  obtain ⟨h1, h2⟩ := p2T_spec hc
  refine stp_of hx hy ?_ kk
  simp only [binE, isShift, if_true]
  refine ⟨h2, ?_⟩
  rw [h1, Int.fdiv_eq_ediv_of_nonneg]
  rw [← h1]; exact Int.le_of_lt (Int.pow_pos (by decide))

theorem stp_sind' {T : TT} (hT : TOk P T) {i : Operand} {t : Nat} {s : ByteArray} {k : IntKind} {j : Int} (n : Nat) (hu : undT T t = some .string)
    (hx : opO fl x = some (.c (.sc (.string s)))) (hi : opO fl i = some (ivl k j)) (h0 : 0 ≤ j) (hb : ∃ b, s[j.toNat]? = some b ∧ b.toNat = n) (kk : K ⟨lk' ((d, ivl .u8 n) :: fl), S'⟩) :
    Stp P mu ops ⟨some d, .index t x i, ty, pos, after, none⟩ ⟨lk' fl, S'⟩ K := by
  obtain ⟨b, h1, rfl⟩ := hb
  exact stp_sind hT hu hx hi h0 h1 kk
end
end Go.Abs

/-
  Short names for the steps: what is found by reckoning is found by itself.
-/
namespace Go.Abs
open Go

section
variable {P : Program} {T : TT} {mu : FuncId → Bool} {N : Nat} {ops : Array Oper} {fl : FL} {sl : SL} {S S' : Store} {K : St → Prop} {Q : Exit → St → Prop} {st : St}
  {d : Nat} {dst : Option Nat} {ty : TypeId} {pos : String} {after : Array Edge}

theorem zr1 {x y : Code} (h : awp P mu N x (thenA (awp P mu N y Q) Q) st) : awp P mu N (.seq x y) Q st := awp_seq h
theorem zr2 {id : Nat} {c : Code} (h : awp P mu N c (blockA id Q) st) : awp P mu N (.block id c) Q st := awp_block h
theorem zr3 {id : Nat} (h : aw P mu N ops Q ops.toList st) : awp P mu N (.region id ops false) Q st := awp_reg h
theorem zr4 {id : Nat} (h : aOps P mu ops ops.toList (Q .normal) st) (hl : ne4 ops.toList = true := by exact rfl) : awp P mu N (.region id ops true) Q st := awp_draw h (by rw [hl]; rfl)
theorem zr19 {id : Nat} (h : aOps P mu ops ops.toList (Q .normal) st) (hl : lexOK mu ops = true := by decide) : awp P mu N (.region id ops true) Q st := awp_draw h (by rw [hl, Bool.or_true])
theorem zr5 (h : Q .normal st) : awp P mu N .skip Q st := awp_skip h
theorem zr6 (h : Q .ret st) : awp P mu N .ret Q st := awp_ret h
theorem zr7 {id : Nat} (h : Q (.exit id) st) : awp P mu N (.exit id) Q st := awp_exit h
theorem zr8 {c : Operand} {x y : Code} (h : awp P mu N x Q ⟨lk' fl, S'⟩) (hc : opO fl c = some (bvl true) := by exact rfl) : awp P mu N (.cond c x y) Q ⟨lk' fl, S'⟩ := awp_ifT hc h
theorem zr9 {c : Operand} {x y : Code} (h : awp P mu N y Q ⟨lk' fl, S'⟩) (hc : opO fl c = some (bvl false) := by exact rfl) : awp P mu N (.cond c x y) Q ⟨lk' fl, S'⟩ := awp_ifF hc h
theorem zr10 (h : K st) : thenA K Q .normal st := h
theorem zr11 (h : Q .ret st) : thenA K Q .ret st := h
theorem zr12 {id : Nat} (h : Q (.exit id) st) : thenA K Q (.exit id) st := h
theorem zr13 {id : Nat} (h : Q .normal st) : blockA id Q .normal st := h
theorem zr14 {id : Nat} (h : Q .ret st) : blockA id Q .ret st := h
theorem zr15 {id id' : Nat} (h : Q .normal st) (e : Nat.beq id' id = true := by exact rfl) : blockA id Q (.exit id') st := blockA_hit e h
theorem zr16 {id id' : Nat} (h : Q (.exit id') st) (e : Nat.beq id' id = false := by exact rfl) : blockA id Q (.exit id') st := blockA_miss e h
theorem zr17 (h : Q .normal st) : aw P mu N ops Q [] st := aw_nil h
theorem zr18 {Q : St → Prop} (h : Q st) : aOps P mu ops [] Q st := h
theorem zw1 {o : Oper} {l : List Oper} (h : Stp P mu ops o st (aw P mu N ops Q l)) : aw P mu N ops Q (o :: l) st := aw_cons h
theorem zw2 {o : Oper} {rest : List Oper} {Q : St → Prop} (h : Stp P mu ops o st (aOps P mu ops rest Q)) : aOps P mu ops (o :: rest) Q st := h
theorem zw3 {o : Oper} (h : Stp P mu ops o st K) : Stp P mu ops o st K := h

theorem zg1 {op : Op} {j t : Nat} {want : Bool} (_ : TOk P T) (k : Stp P mu ops ⟨dst, op, ty, pos, after, none⟩ ⟨lk' fl, S'⟩ K) (hg : (ops[j]?).bind (·.dst) = some t := by exact rfl) (hb : lkO fl t = some (bvl want) := by exact rfl) :
    Stp P mu ops ⟨dst, op, ty, pos, after, some (j, want)⟩ ⟨lk' fl, S'⟩ K := stp_gT hg hb k
theorem zg2 {op : Op} {j t : Nat} {b want : Bool} (_ : TOk P T) (k : K ⟨lk' ((d, .c (.sc undef)) :: fl), S'⟩) (hg : (ops[j]?).bind (·.dst) = some t := by exact rfl) (hb : lkO fl t = some (bvl b) := by exact rfl) (hne : b = !want := by exact rfl) :
    Stp P mu ops ⟨some d, op, ty, pos, after, some (j, want)⟩ ⟨lk' fl, S'⟩ K := stp_gF hg hb hne k
theorem zg3 {op : Op} {j t : Nat} {vs : Array Value} {want : Bool} (_ : TOk P T) (k : K ⟨lk' ((d, .c (.sc undef)) :: fl), S'⟩) (hg : (ops[j]?).bind (·.dst) = some t := by exact rfl) (hb : lkO fl t = some (.c (.sc (.tuple vs))) := by exact rfl) :
    Stp P mu ops ⟨some d, op, ty, pos, after, some (j, want)⟩ ⟨lk' fl, S'⟩ K := stp_gU hg hb k
theorem zg4 {t : TypeId} {x : Operand} {cs : List Leaf} {y : Cell} (hT : TOk P T) (k : K ⟨lk' ((d, .c y) :: fl), S'⟩) (hx : opO fl x = some (.c (.pim cs)) := by exact rfl) (ha : agT T t = some false := by exact rfl) (hy : headL cs = some y := by exact rfl) :
    Stp P mu ops ⟨some d, .load t x, ty, pos, after, none⟩ ⟨lk' fl, S'⟩ K := stp_loadp hT hx ha hy k
theorem zg5 {t0 t1 : TypeId} {x y : Operand} {m n : Nat} (_ : TOk P T) (kk : K ⟨lk' ((d, ivl .u64 ((m / n : Nat) : Int)) :: fl), S'⟩) (hx : opO fl x = some (ivl .u64 (m : Int)) := by exact rfl) (hy : opO fl y = some (ivl .u64 (n : Int)) := by exact rfl)
    (h : m < 18446744073709551616 ∧ n ≠ 0 := by first | exact True.intro | omega | (simp only [and_true, List.length_map, List.length_replicate, List.length_set, List.length_append, List.length_cons, List.length_nil, List.length_take, List.length_drop] at *; omega)) : Stp P mu ops ⟨some d, .binOp .quo t0 x y t1, ty, pos, after, none⟩ ⟨lk' fl, S'⟩ K := stp_quoN hx hy h kk
theorem zg6 {t0 t1 : TypeId} {x y : Operand} {m n : Nat} (_ : TOk P T) (kk : K ⟨lk' ((d, ivl .u64 ((m % n : Nat) : Int)) :: fl), S'⟩) (hx : opO fl x = some (ivl .u64 (m : Int)) := by exact rfl) (hy : opO fl y = some (ivl .u64 (n : Int)) := by exact rfl)
    (h : n ≠ 0 := by first | exact True.intro | omega | (simp only [and_true, List.length_map, List.length_replicate, List.length_set, List.length_append, List.length_cons, List.length_nil, List.length_take, List.length_drop] at *; omega)) : Stp P mu ops ⟨some d, .binOp .rem t0 x y t1, ty, pos, after, none⟩ ⟨lk' fl, S'⟩ K := stp_remN hx hy h kk
theorem zg7 {t0 t1 : TypeId} {x y : Operand} {a : Int} (_ : TOk P T) (kk : K ⟨lk' ((d, ivl .u64 (a % 4294967296)) :: fl), S'⟩) (hx : opO fl x = some (ivl .u64 a) := by exact rfl) (hy : opO fl y = some (ivl .u64 4294967295) := by exact rfl) (h0 : 0 ≤ a := by first | exact True.intro | omega | (simp only [and_true, List.length_map, List.length_replicate, List.length_set, List.length_append, List.length_cons, List.length_nil, List.length_take, List.length_drop] at *; omega)) :
    Stp P mu ops ⟨some d, .binOp .and t0 x y t1, ty, pos, after, none⟩ ⟨lk' fl, S'⟩ K := stp_mask hx hy h0 kk
theorem zg8 {t0 t1 : TypeId} {x y : Operand} {k' : IntKind} {a b c : Int} (_ : TOk P T) (kk : K ⟨lk' ((d, ivl .u64 (a / c)) :: fl), S'⟩) (hx : opO fl x = some (ivl .u64 a) := by exact rfl) (hy : opO fl y = some (ivl k' b) := by exact rfl) (hc : p2T b = some c := by exact rfl) :
    Stp P mu ops ⟨some d, .binOp .shr t0 x y t1, ty, pos, after, none⟩ ⟨lk' fl, S'⟩ K := stp_shrC hx hy hc kk
theorem zg9 {op : Op} {v : AVal} {C : Prop} (hT : TOk P T) (k : K ⟨lk' ((d, v) :: fl), S'⟩) (h : evP T true fl op = some (v, C) := by exact rfl) (hc : C := by first | exact True.intro | omega | (simp only [and_true, List.length_map, List.length_replicate, List.length_set, List.length_append, List.length_cons, List.length_nil, List.length_take, List.length_drop] at *; omega)) :
    Stp P mu ops ⟨some d, op, ty, pos, after, none⟩ ⟨lk' fl, S'⟩ K := stp_pure hT true h hc k
theorem zg10 {t : TypeId} {x : Operand} {m : Nm} {off : Nat} {o : AObj} {y : Cell} {C : Prop} (hT : TOk P T) (k : K ⟨lk' ((d, .c y) :: fl), ov sl S⟩) (hx : opO fl x = some (.c (.ptr m off)) := by exact rfl) (ha : agT T t = some false := by exact rfl)
    (hm : lkS sl m = some o := by exact lks) (hy : objO o off = some (y, C) := by exact rfl) (hc : C := by first | exact True.intro | omega | (simp only [and_true, List.length_map, List.length_replicate, List.length_set, List.length_append, List.length_cons, List.length_nil, List.length_take, List.length_drop] at *; omega)) : Stp P mu ops ⟨some d, .load t x, ty, pos, after, none⟩ ⟨lk' fl, ov sl S⟩ K := stp_load hT hx ha hm hy hc k
theorem zg11 {t : TypeId} {x y : Operand} {m : Nm} {off : Nat} {o o' : AObj} {v : AVal} {C : Prop} (hT : TOk P T) (k : K ⟨lk' fl, ov ((m, o') :: sl) S⟩) (hx : opO fl x = some (.c (.ptr m off)) := by exact rfl) (hy : opO fl y = some v := by exact rfl)
    (hm : lkS sl m = some o := by exact lks) (ho : putO T t o off v = some (o', C) := by exact rfl) (hc : C := by first | exact True.intro | omega | (simp only [and_true, List.length_map, List.length_replicate, List.length_set, List.length_append, List.length_cons, List.length_nil, List.length_take, List.length_drop] at *; omega)) : Stp P mu ops ⟨none, .store t x y, ty, pos, after, none⟩ ⟨lk' fl, ov sl S⟩ K := stp_store hT hx hy hm ho hc k
theorem zg12 {e : TypeId} {z : List Cell} (hT : TOk P T) (k : K ⟨lk' ((d, .c (.ptr (.loc d) 0)) :: fl), ov ((.loc d, .cells e z) :: sl) (pushS S)⟩) (hz : zerF T e = some z := by exact rfl) (hf : freeO sl d = true := by exact rfl) :
    Stp P mu ops ⟨some d, .alloc e, ty, pos, after, none⟩ ⟨lk' fl, ov sl (pushS S)⟩ K := stp_alloc hT hz hf k
theorem zg13 {t e : TypeId} {l c : Operand} {a b : Int} {ka kb k : IntKind} (hT : TOk P T) (kk : K ⟨lk' ((d, .c (.win (.loc d) 0 a.toNat b.toNat)) :: fl), ov ((.loc d, .ints e k (List.replicate b.toNat 0)) :: sl) (pushS S)⟩)
    (ht : undT T t = some (.slice e) := by exact rfl) (hc1 : celT T e = 1 := by exact rfl) (hb8 : bytT T e = some 8 := by exact rfl) (hz : zerF T e = some [.sc (.int k 0)] := by exact rfl)
    (hl : opO fl l = some (ivl ka a) := by exact rfl) (hc : opO fl c = some (ivl kb b) := by exact rfl) (hf : freeO sl d = true := by exact rfl) (hb : 0 ≤ a ∧ a ≤ b ∧ b ≤ 35184372088832 := by first | exact True.intro | omega | (simp only [and_true, List.length_map, List.length_replicate, List.length_set, List.length_append, List.length_cons, List.length_nil, List.length_take, List.length_drop] at *; omega)) :
    Stp P mu ops ⟨some d, .makeSlice t l c, ty, pos, after, none⟩ ⟨lk' fl, ov sl (pushS S)⟩ K := stp_make hT ht hc1 hb8 hz hl hc hf hb kk
theorem zg14 {t e : TypeId} {l c : Operand} {a b : Int} {ka kb k : IntKind} (hT : TOk P T) (kk : K ⟨lk' ((d, .c (.win (.loc d) 0 a.toNat b.toNat)) :: fl), ov ((.loc d, .ints e k (List.replicate b.toNat 0)) :: sl) (pushS S)⟩)
    (ht : undT T t = some (.slice e) := by exact rfl) (hc1 : celT T e = 1 := by exact rfl) (hb8 : bytT T e = some 1 := by exact rfl) (hz : zerF T e = some [.sc (.int k 0)] := by exact rfl)
    (hl : opO fl l = some (ivl ka a) := by exact rfl) (hc : opO fl c = some (ivl kb b) := by exact rfl) (hf : freeO sl d = true := by exact rfl) (hb : 0 ≤ a ∧ a ≤ b ∧ b ≤ 281474976710656 := by first | exact True.intro | omega | (simp only [and_true, List.length_map, List.length_replicate, List.length_set, List.length_append, List.length_cons, List.length_nil, List.length_take, List.length_drop] at *; omega)) :
    Stp P mu ops ⟨some d, .makeSlice t l c, ty, pos, after, none⟩ ⟨lk' fl, ov sl (pushS S)⟩ K := stp_make1 hT ht hc1 hb8 hz hl hc hf hb kk
theorem zg15 {t e : TypeId} {n : Nat} {ps : Array (Nat × Operand)} {k : IntKind} {L : List Int} (hT : TOk P T) (kk : K ⟨lk' ((d, .c (.win (.loc d) 0 n n)) :: fl), ov ((.loc d, .ints e k L) :: sl) (pushS S)⟩)
    (ht : undT T t = some (.slice e) := by exact rfl) (hc1 : celT T e = 1 := by exact rfl) (hz : zerF T e = some [.sc (.int k 0)] := by exact rfl) (hp : intsPart fl ps.toList 0 = some (k, L) := by exact rfl)
    (hn : Nat.beq ps.toList.length n = true := by exact rfl) (hsmall : Nat.ble n 1000 = true := by exact rfl) (hf : freeO sl d = true := by exact rfl) :
    Stp P mu ops ⟨some d, .buildSlice t n ps, ty, pos, after, none⟩ ⟨lk' fl, ov sl (pushS S)⟩ K := stp_ints hT ht hc1 hz hp hn hsmall hf kk

theorem s_cmp {op : BinOp} {t0 T' : TypeId} {x y : Operand} {k k' : IntKind} {a b : Int} {p : Prop} (h1 : p → K ⟨lk' ((d, bvl true) :: fl), S'⟩) (h2 : ¬ p → K ⟨lk' ((d, bvl false) :: fl), S'⟩)
    (hx : opO fl x = some (ivl k a) := by exact rfl) (hy : opO fl y = some (ivl k' b) := by exact rfl) (hk : kEq k k' = true := by exact rfl) (hp : cmpP op a b = some p := by exact rfl) :
    Stp P mu ops ⟨some d, .binOp op t0 x y T', ty, pos, after, none⟩ ⟨lk' fl, S'⟩ K := stp_cmp hx hy hk hp h1 h2
theorem s_call {f : FuncId} {as : Array Operand} {tys : Array TypeId} {xs args : List AVal} {res : AVal} (hc : AFun P f args res) (k : K ⟨lk' ((d, res) :: fl), ov sl (pushS S)⟩) (hx : opsO fl as.toList = some xs := by exact rfl)
    (hle : ALes xs args := by repeat (first | exact trivial | refine ⟨ALe.refl _, ?_⟩ | refine ⟨.inr (.inl ⟨_, rfl, rfl⟩), ?_⟩)) (hf : freeO sl d = true := by exact rfl) :
    Stp P mu ops ⟨some d, .call ⟨.value (.func f), as, tys⟩, ty, pos, after, none⟩ ⟨lk' fl, ov sl (pushS S)⟩ K := stp_callF hc hx hle hf k

theorem s_appR {s x : Operand} {tys : Array TypeId} {t e : TypeId} {as : Array Operand} {m : Nm} {k : IntKind} {L Y : List Int} {len cm : Nat} {xv : AVal} (hT : TOk P T) (hY : srcE (ov sl S) xv k Y)
    (hl : len + Y.length ≤ cm ∧ len + Y.length ≤ L.length) (kk : K ⟨lk' ((d, .c (.win m 0 (len + Y.length) cm)) :: killL m fl), ov ((m, .ints e k (L.take len ++ Y ++ L.drop (len + Y.length))) :: sl) S⟩)
    (ha : as.toList = [s, x] := by exact rfl) (ht : tys.toList = [t, t] := by exact rfl) (hu : undT T t = some (.slice e) := by exact rfl) (hc1 : celT T e = 1 := by exact rfl)
    (hz : zerT T e = some (.int k 0) := by exact rfl) (hs : opO fl s = some (.c (.win m 0 len cm)) := by exact rfl) (hx : opO fl x = some xv := by exact rfl) (hm : lkS sl m = some (.ints e k L) := by exact lks) :
    Stp P mu ops ⟨some d, .call ⟨.builtin .append, as, tys⟩, ty, pos, after, none⟩ ⟨lk' fl, ov sl S⟩ K := stp_appR hT ha ht hu hc1 hz hs hx hm hY hl kk
theorem s_app {s x : Operand} {tys : Array TypeId} {t e : TypeId} {as : Array Operand} {m : Nm} {k : IntKind} {L Y : List Int} {xv : AVal} {nb : Nat} (hT : TOk P T) (hY : srcE (ov sl S) xv k Y)
    (hl : (L.length + Y.length) * nb ≤ 140737488355328 ∧ L.length + Y.length ≤ maxLen) (kk : K ⟨lk' ((d, .accv m) :: killL m fl), ov ((m, .acc e k (L ++ Y)) :: sl) S⟩)
    (ha : as.toList = [s, x] := by exact rfl) (ht : tys.toList = [t, t] := by exact rfl) (hu : undT T t = some (.slice e) := by exact rfl) (hc1 : celT T e = 1 := by exact rfl)
    (hz : zerT T e = some (.int k 0) := by exact rfl) (hs : opO fl s = some (.accv m) := by exact rfl) (hx : opO fl x = some xv := by exact rfl) (hm : lkS sl m = some (.acc e k L) := by exact lks)
    (ho : m.isOut = false := by exact rfl) (hb : bytT T e = some nb := by exact rfl) :
    Stp P mu ops ⟨some d, .call ⟨.builtin .append, as, tys⟩, ty, pos, after, none⟩ ⟨lk' fl, ov sl S⟩ K := stp_app hT ha ht hu hc1 hz hs hx hm ho hY hb hl kk
theorem s_app0 {s x : Operand} {tys : Array TypeId} {t e : TypeId} {as : Array Operand} {k : IntKind} {Y : List Int} {xv : AVal} {nb : Nat} (hT : TOk P T) (hY : srcE (ov sl (pushS S)) xv k Y)
    (hl : Y.length * nb ≤ 140737488355328 ∧ Y.length ≤ maxLen) (kk : K ⟨lk' ((d, .accv (.loc d)) :: killL (.loc d) fl), ov ((.loc d, .acc e k Y) :: sl) (pushS S)⟩)
    (ha : as.toList = [s, x] := by exact rfl) (ht : tys.toList = [t, t] := by exact rfl) (hu : undT T t = some (.slice e) := by exact rfl) (hc1 : celT T e = 1 := by exact rfl)
    (hz : zerT T e = some (.int k 0) := by exact rfl) (hs : opO fl s = some nils := by exact rfl) (hx : opO fl x = some xv := by exact rfl) (hf : freeO sl d = true := by exact rfl) (hb : bytT T e = some nb := by exact rfl) :
    Stp P mu ops ⟨some d, .call ⟨.builtin .append, as, tys⟩, ty, pos, after, none⟩ ⟨lk' fl, ov sl (pushS S)⟩ K := stp_app0 hT ha ht hu hc1 hz hs hx hf hY hb hl kk
end
end Go.Abs

/-
  Functions that write what they are handed; functions that hand out new blocks.
-/
namespace Go.Abs
open Go

theorem Cell.map_congr {φ ψ : Nm → Nm} {x : Cell} (h : ∀ q, x.at q → φ q = ψ q) : x.map φ = x.map ψ := by
  cases x <;> simp only [Cell.map] <;> rw [h _ rfl]
theorem Cell.maps_congr {φ ψ : Nm → Nm} {cs : List Cell} (h : ∀ x ∈ cs, ∀ q, x.at q → φ q = ψ q) : cs.map (·.map φ) = cs.map (·.map ψ) :=
  List.map_congr_left fun x hx => Cell.map_congr (h x hx)
theorem AVal.map1_congr {φ ψ : Nm → Nm} {x : AVal} (h : ∀ q, x.at1 q → φ q = ψ q) : x.map1 φ = x.map1 ψ := by
  cases x with
  | c x => simp only [AVal.map1, Cell.map_congr (x := x) h]
  | agg cs => simp only [AVal.map1, Cell.maps_congr (cs := cs) fun x hx q hq => h q ⟨x, hx, hq⟩]
  | fn f cs => simp only [AVal.map1, Cell.maps_congr (cs := cs) fun x hx q hq => h q ⟨x, hx, hq⟩]
  | accv m => simp only [AVal.map1, h m rfl]
  | tup xs => rfl
theorem AVal.map_congr {φ ψ : Nm → Nm} {x : AVal} (h : ∀ q, x.at q → φ q = ψ q) : x.map φ = x.map ψ := by
  cases x with
  | tup xs =>
    simp only [AVal.map]
    congr 1
    exact List.map_congr_left fun x hx => AVal.map1_congr fun q hq => h q ⟨x, hx, hq⟩
  | c x => exact AVal.map1_congr (x := .c x) h
  | agg x => exact AVal.map1_congr (x := .agg x) h
  | fn f x => exact AVal.map1_congr (x := .fn f x) h
  | accv m => exact AVal.map1_congr (x := .accv m) h

def AObj.nm0 : AObj → Prop
  | .cells _ cs => ∀ x ∈ cs, ∀ m, ¬ x.at m
  | _ => True
theorem AObj.map_nm0 {φ : Nm → Nm} {o : AObj} (h : o.nm0) : o.map φ = o := by
  cases o with
  | cells ty cs => simp only [AObj.map, Cell.maps_nm0 h]
  | ints ty k L => rfl
  | acc ty k L => rfl
theorem AObj.cl_nm0 {S : Store} {o : AObj} (h : o.nm0) : o.cl S := by
  cases o with
  | cells ty cs => exact fun x hx m hm => absurd hm (h x hx m)
  | ints ty k L => trivial
  | acc ty k L => trivial

/-- f writes the blocks of its arguments (pre), as post says. -/
structure AProc (P : Program) (f : FuncId) (args : List AVal) (pre post : SL) (res : AVal) : Prop where
  calls : ∀ Φ, (∀ p ∈ pre, Φ p.1 = some p.2) → ACalls P f args Φ (fun _ => res) (fun _ => post)
  nmA : ∀ q x, x ∈ args → x.at q → ∃ o, (q, o) ∈ pre
  nmR : ∀ q, res.at q → ∃ x ∈ args, x.at q
  nmP : ∀ p ∈ post, ∃ x ∈ args, x.at p.1
  post0 : ∀ p ∈ post, p.2.nm0

def outO (U : SL) : SL := U.map fun p => (.out p.1, p.2)
theorem lkS_outO : ∀ (U : SL) (q : Nm), lkS (outO U) (.out q) = lkS U q
  | [], q => rfl
  | (m, o) :: U, q => by
    have ih := lkS_outO U q
    simp only [outO, List.map_cons, lkS, Nm.out.injEq] at ih ⊢
    rw [ih]
theorem lkS_outO_ne : ∀ (U : SL) (q : Nm), (∀ m, q ≠ .out m) → lkS (outO U) q = none
  | [], q, _ => rfl
  | (m, o) :: U, q, h => by
    have ih := lkS_outO_ne U q h
    simp only [outO, List.map_cons, lkS] at ih ⊢
    rw [if_neg (h m), ih]
theorem lkS_none : ∀ {U : SL} {q : Nm}, (∀ p ∈ U, p.1 ≠ q) → lkS U q = none
  | [], q, _ => rfl
  | (m, o) :: U, q, h => by
    simp only [lkS]
    rw [if_neg (fun e => h (m, o) (by simp) e.symm)]
    exact lkS_none fun p hp => h p (by simp [hp])
theorem updL_lk : ∀ (U : SL) (S : Store) (q : Nm), (U.map Prod.fst).Nodup → updL S U q = match lkS U q with | some o => some o | none => S q
  | [], S, q, _ => rfl
  | (m, o) :: U, S, q, h => by
    simp only [List.map_cons, List.nodup_cons] at h
    simp only [updL]
    rw [updL_lk U _ q h.2]
    simp only [lkS]
    by_cases e : q = m
    · subst e
      rw [if_pos rfl]
      have : lkS U q = none := lkS_none fun p hp e => h.1 (by rw [← e]; exact List.mem_map.2 ⟨p, hp, rfl⟩)
      rw [this]; simp [upd]
    · rw [if_neg e]
      cases lkS U q <;> simp [upd, e]
theorem lkS_mem : ∀ {U : SL} {q : Nm} {o : AObj}, lkS U q = some o → (q, o) ∈ U
  | (m, o') :: U, q, o, h => by
    simp only [lkS] at h
    split at h
    · rename_i e; subst e; obtain rfl := Option.some.inj h; simp
    · exact List.mem_cons_of_mem _ (lkS_mem h)

section
variable {P : Program} {mu : FuncId → Bool}

/-- The end of a function that leaves 'post'. -/
def EndP (P : Program) (fn : Func) (S : Store) (post : SL) (res : AVal) (e : Exit) (st : St) : Prop :=
  (e = .normal ∨ e = .ret) ∧ ∃ T fl vs, TOk P T ∧ Weak st ⟨lk' fl, ov (outO post) (pushS S)⟩ ∧ resL T fl fn.results.toList = some vs ∧ flatL vs = true ∧ oneR vs = res.map .out

theorem aproc {f : FuncId} {fn : Func} {c : Code} {args : List AVal} {pre post : SL} {res : AVal} (hf : P.funcs[f]? = some fn) (hb : fn.body = some c) (hname : (fn.name == "runtime.NumGoroutine") = false)
    (hm : P.follows .mixedOrders = true) (hok : okC fn.ntmps mu c = true) (hl : args.length ≤ fn.ntmps) (hA : ∀ q x, x ∈ args → x.at q → ∃ o, (q, o) ∈ pre) (hR : ∀ q, res.at q → ∃ x ∈ args, x.at q)
    (hP : ∀ p ∈ post, ∃ x ∈ args, x.at p.1) (hpre0 : ∀ p ∈ pre, p.2.nm0 ∧ ∃ x ∈ args, x.at p.1) (hpost0 : ∀ p ∈ post, p.2.nm0) (hnd : (post.map Prod.fst).Nodup)
    (h : ∀ S, (∀ n b, S n = some b → b.cl S) → awp P mu fn.ntmps c (EndP P fn S post res) ⟨lk' (entryL 0 (args.map (·.map .out))), ov (outO pre) (pushS S)⟩) : AProc P f args pre post res := by
  refine ⟨fun Φ hΦ => acalls hf hb hname hm hok hl fun n S hag hn hcl => ?_, hA, hR, hP, hpost0⟩
  have hS : ∀ p ∈ pre, S p.1 = some p.2 := fun p hp => by
    obtain ⟨x, hx, hq⟩ := (hpre0 p hp).2
    rw [hag p.1 ⟨x, hx, hq⟩]; exact hΦ p hp
  have e0 : ov (outO pre) (pushS S) = ov [] (pushS S) := by
    rw [show ov [] (pushS S) = pushS S from rfl]
    refine ov_self fun m o hm => ?_
    have : ∃ q, m = .out q := by
      cases m with
      | out q => exact ⟨q, rfl⟩
      | _ => rw [lkS_outO_ne _ _ (fun m e => by cases e)] at hm; cases hm
    obtain ⟨q, rfl⟩ := this
    rw [lkS_outO] at hm
    have := hS _ (lkS_mem hm)
    simp only at this
    simp only [pushS, this, Option.map_some, AObj.map_nm0 (hpre0 _ (lkS_mem hm)).1]
  refine awp_weak _ (entry_weak args S) ?_
  have hh := h S hcl
  rw [e0] at hh
  refine awp_post (awp_mono hh ?_)
  have hne : ∀ m, S m ≠ none → m ≠ n := fun m hm e => hm (by rw [e]; exact hn)
  have hnames : ∀ q, (∃ x ∈ args, x.at q) → S q ≠ none := fun q ⟨x, hx, hq⟩ => by
    obtain ⟨o, ho⟩ := hA q x hx hq
    rw [hS _ ho]; simp
  have hpostS : ∀ q o, lkS post q = some o → S q ≠ none := fun q o ho => hnames q (hP _ (lkS_mem ho))
  rintro e st ⟨he, T, fl, vs, hT, h1, h2, h3, h4⟩
  refine ⟨_, h1, he, vs, .new, resL_spec hT h2, flatL_spec h3, rfl, ?_, ?_, ?_⟩
  · have e1 : ∀ (o : AObj), o.cl S → (o.map fun m => if m = n then .new else .out m) = o.map .out := by
      intro o hc
      cases o with
      | ints ty k L => rfl
      | acc ty k L => rfl
      | cells ty cs =>
        simp only [AObj.map]
        congr 1
        refine List.map_congr_left fun x hx => ?_
        cases x <;> simp only [Cell.map]
        · rename_i q _ _ _; rw [if_neg (hne q (hc _ hx q rfl))]
        · rename_i q _; rw [if_neg (hne q (hc _ hx q rfl))]
    have hdom : ∀ m, updL S post m ≠ none → S m ≠ none := fun m hm => by
      rw [updL_lk _ _ _ hnd] at hm
      cases e : lkS post m with
      | none => rw [e] at hm; exact hm
      | some o => exact hpostS m o e
    refine ⟨fun m m' q1 q2 e => ?_, fun m o hm => ?_, fun m o hm => ?_⟩
    · rw [if_neg (hne m (hdom m q1)), if_neg (hne m' (hdom m' q2))] at e; injection e
    · have hm0 := hdom m (by rw [hm]; simp)
      rw [if_neg (hne m hm0)]
      rw [updL_lk _ _ _ hnd] at hm
      simp only [ov, lkS_outO]
      cases e : lkS post m with
      | none =>
        rw [e] at hm
        simp only at hm ⊢
        rw [e1 o (hcl m o hm)]
        simp [pushS, hm]
      | some o' =>
        rw [e] at hm
        obtain rfl := Option.some.inj hm
        rw [AObj.map_nm0 (hpost0 _ (lkS_mem e))]
    · rw [updL_lk _ _ _ hnd] at hm
      have mono : ∀ q, S q ≠ none → updL S post q ≠ none := fun q hq => updL_dom _ _ _ hq
      cases e : lkS post m with
      | none =>
        rw [e] at hm
        have := hcl m o hm
        cases o with
        | cells ty cs => exact fun x hx q hq => mono q (this x hx q hq)
        | ints ty k L => trivial
        | acc ty k L => trivial
      | some o' =>
        rw [e] at hm
        obtain rfl := Option.some.inj hm
        exact AObj.cl_nm0 (hpost0 _ (lkS_mem e))
  · exact fun q hq => updL_dom _ _ _ (hnames q (hR q hq))
  · rw [h4]
    exact AVal.map_congr fun q hq => by rw [if_neg (hne q (hnames q (hR q hq)))]

variable {T : TT} {ops : Array Oper} {fl : FL} {sl : SL} {S : Store} {K : St → Prop} {d : Nat} {ty : TypeId} {pos : String} {after : Array Edge}

theorem endP (hT : TOk P T) {fn : Func} {post : SL} {res : AVal} {e : Exit} {fl' : FL} {vs : List AVal} (he : e = .normal ∨ e = .ret) (hS : ∀ n b, S n = some b → b.cl S) (ho : outsL (outO post) = outsL sl)
    (hs : FrzS (ov sl (pushS S)) (ov (outO post) (pushS S)) (outO post)) (hf : FrzF (ov sl (pushS S)) (ov (outO post) (pushS S)) fl fl')
    (hr : resL T fl' fn.results.toList = some vs) (hfl : flatL vs = true) (h1 : oneR vs = res.map .out) : EndP P fn S post res e ⟨lk' fl, ov sl (pushS S)⟩ :=
  ⟨he, T, fl', vs, hT, frz hS ho hs hf, hr, hfl, h1⟩

theorem AProc.side {f : FuncId} {args : List AVal} {pre post : SL} {res : AVal} {dd : Option Nat} (hc : AProc P f args pre post res) (hmu : mu f = true) : ASide mu f dd args res post :=
  ⟨fun p hp => .inr ⟨hmu, hc.nmP p hp⟩, .inr (.inl hmu), fun m hm => .inr (hc.nmR m hm), fun p hp ty cs e x hx m hm => by
    have := hc.post0 p hp
    rw [e] at this
    exact absurd hm (this x hx m)⟩

theorem s_proc {g : Operand} {f : FuncId} {caps : List Cell} {as : Array Operand} {tys : Array TypeId} {xs args : List AVal} {pre post : SL} {res : AVal} (hc : AProc P f args pre post res) (k : K ⟨lk' ((d, res) :: fl), ov (addL sl post) (pushS S)⟩)
    (hpre : ∀ p ∈ pre, lkS sl p.1 = some p.2) (hmu : mu f = true := by exact rfl) (hg : opO fl g = some (.fn f caps) := by exact rfl) (hx : opsO fl as.toList = some xs := by exact rfl)
    (hle : ALes (xs ++ caps.map .c) args := by repeat (first | exact trivial | refine ⟨ALe.refl _, ?_⟩ | refine ⟨.inr (.inl ⟨_, rfl, rfl⟩), ?_⟩)) (hf : freeO sl d = true := by exact rfl) :
    Stp P mu ops ⟨some d, .call ⟨.value g, as, tys⟩, ty, pos, after, none⟩ ⟨lk' fl, ov sl (pushS S)⟩ K :=
  stp_call (hc.calls (ov sl (pushS S)) fun p hp => ov_of (hpre p hp)) hg hx hle hf (fun _ _ => rfl) (hc.side hmu) k
theorem s_procN {g : Operand} {f : FuncId} {caps : List Cell} {as : Array Operand} {tys : Array TypeId} {xs args : List AVal} {pre post : SL} {res : AVal} (hc : AProc P f args pre post res) (k : K ⟨lk' fl, ov (addL sl post) (pushS S)⟩)
    (hpre : ∀ p ∈ pre, lkS sl p.1 = some p.2) (hmu : mu f = true := by exact rfl) (hg : opO fl g = some (.fn f caps) := by exact rfl) (hx : opsO fl as.toList = some xs := by exact rfl)
    (hle : ALes (xs ++ caps.map .c) args := by repeat (first | exact trivial | refine ⟨ALe.refl _, ?_⟩ | refine ⟨.inr (.inl ⟨_, rfl, rfl⟩), ?_⟩)) (hf : lkS sl .new = none := by exact rfl) :
    Stp P mu ops ⟨none, .call ⟨.value g, as, tys⟩, ty, pos, after, none⟩ ⟨lk' fl, ov sl (pushS S)⟩ K :=
  stp_callN (hc.calls (ov sl (pushS S)) fun p hp => ov_of (hpre p hp)) hg hx hle hf (fun _ _ => rfl) (hc.side hmu) k
end
end Go.Abs

/-
  Functions that hand out a new block; rows of cells that are told as they stand.
-/
namespace Go.Abs
open Go

/-- f hands out a new block of these cells. -/
structure ANew (P : Program) (f : FuncId) (args : List AVal) (ty : TypeId) (ls : List Leaf) : Prop where
  calls : ∀ Φ, ACalls P f args Φ (fun n => .c (.ptr n 0)) (fun n => [(n, .cells ty (ls.map Leaf.cell))])
  args0 : ∀ x ∈ args, nm0 x

theorem Leaf.cell_nm (l : Leaf) (m : Nm) : ¬ l.cell.at m := by cases l <;> exact fun h => h
theorem leaves_nm0 {ls : List Leaf} {x : Cell} (h : x ∈ ls.map Leaf.cell) (m : Nm) : ¬ x.at m := by
  obtain ⟨l, -, rfl⟩ := List.mem_map.1 h
  exact l.cell_nm m

section
variable {P : Program} {mu : FuncId → Bool}

theorem ANew.pim {f : FuncId} {args : List AVal} {ty : TypeId} {ls : List Leaf} (h : ANew P f args ty ls) : AFun P f args (.c (.pim ls)) where
  res0 := fun m hm => hm.elim
  args0 := h.args0
  calls Φ n S hag hn w ρ vs he hvs := by
    rcases h.calls Φ n S hag hn w ρ vs he hvs with ⟨hrun, hc⟩ | ⟨v, -, -, hu⟩
    · refine .inl ⟨hrun, hc.mono ?_⟩
      rintro e w' ⟨ρ', v, e1, e2, e3, e4⟩
      have hS' : ∀ m o, S m = some o → updL S [(n, .cells ty (ls.map Leaf.cell))] m = some o := fun m o hm => by
        have : m ≠ n := fun q => by rw [q, hn] at hm; cases hm
        simp only [updL, upd_ne _ _ this, hm]
      have hS2 : ∀ m o, m ≠ n → updL S [(n, .cells ty (ls.map Leaf.cell))] m = some o → S m = some o := fun m o q hm => by
        simp only [updL, upd_ne _ _ q] at hm; exact hm
      have hne : ∀ {m o}, S m = some o → m ≠ n := fun hm q => by rw [q, hn] at hm; cases hm
      have hO : Sub (updL S [(n, .cells ty (ls.map Leaf.cell))]) S := fun m o hm => .inl ⟨o, hS' m o hm, by
        cases o with
        | ints ty k L => exact .ints
        | acc ty k L => exact .acc
        | cells ty cs => exact .cells fun i y hy => ⟨y, hy, .base (.keep fun q hq => he.cl m _ hm y (List.mem_of_getElem? hy) q hq)⟩⟩
      refine ⟨ρ', v, e1, ⟨fun m m' o o' h1 h2 r1 r2 e => e2.inj m m' o o' (hS' _ _ h1) (hS' _ _ h2) r1 r2 e, fun m o hm => ?_⟩, ⟨e3.os, e3.tape, e3.output, e3.size, e3.old, fun m o hm hr => e3.nms m o (hS' _ _ hm) hr, fun m o hm ha => ?_, e3.szs, fun m ty' k L hX hm => ?_, fun _ h => h.elim⟩, ?_⟩
      · have ho := e2.obj m o (hS' m o hm)
        cases o with
        | ints ty k L => exact ho
        | acc ty k L => exact ho
        | cells ty cs =>
          obtain ⟨vs, q1, q2⟩ := ho
          refine ⟨vs, q1, fun i y hy => ?_⟩
          obtain ⟨u, p1, p2, p3⟩ := q2 i y hy
          exact ⟨u, p1, p2, FrzC0.held hO e2 (.keep fun q hq => he.cl m _ hm y (List.mem_of_getElem? hy) q hq) p3⟩
      · obtain ⟨o', a1, a2, a3⟩ := e3.kp m o hm ha
        exact ⟨o', hS2 m o' (hne hm) a1, a2, a3⟩
      · obtain ⟨a1, a2⟩ := e3.acc m ty' k L hX hm
        exact ⟨hS2 m _ (hne hm) a1, a2⟩
      · refine FrzV.held hO e2 (.c (.ptr (ty := ty) (cs := ls.map Leaf.cell) (by simp [updL, upd]) hn fun j l hj => ⟨l.cell, by simp [hj], .keep fun q hq => absurd hq (l.cell_nm q)⟩)) e4
    · cases hu

/-- The end of a function that hands out a new block. -/
def EndN (P : Program) (fn : Func) (S : Store) (ty : TypeId) (ls : List Leaf) (e : Exit) (st : St) : Prop :=
  (e = .normal ∨ e = .ret) ∧ ∃ T fl l, TOk P T ∧ l.isOut = false ∧ Weak st ⟨lk' fl, ov [(l, .cells ty (ls.map Leaf.cell))] (pushS S)⟩ ∧ resL T fl fn.results.toList = some [.c (.ptr l 0)]

theorem anew {f : FuncId} {fn : Func} {c : Code} {args : List AVal} {ty : TypeId} {ls : List Leaf} (hf : P.funcs[f]? = some fn) (hb : fn.body = some c) (hname : (fn.name == "runtime.NumGoroutine") = false)
    (hm : P.follows .mixedOrders = true) (hok : okC fn.ntmps mu c = true) (hl : args.length ≤ fn.ntmps) (ha : ∀ x ∈ args, nm0 x)
    (h : ∀ S, (∀ n b, S n = some b → b.cl S) → awp P mu fn.ntmps c (EndN P fn S ty ls) ⟨lk' (entryL 0 args), ov [] (pushS S)⟩) : ANew P f args ty ls := by
  refine ⟨fun Φ => acalls hf hb hname hm hok hl fun n S _ hn hcl => ?_, ha⟩
  refine awp_weak _ (entry_weak args S) ?_
  have e1 : args.map (·.map .out) = args := by
    conv => rhs; rw [← List.map_id args]
    exact List.map_congr_left fun x hx => AVal.map_nm0 (ha x hx)
  rw [e1]
  refine awp_post (awp_mono (h S hcl) ?_)
  rintro e st ⟨he, T, fl, l, hT, hlo, h1, h2⟩
  have hne : ∀ m, S m ≠ none → m ≠ n := fun m hm e => hm (by rw [e]; exact hn)
  refine ⟨_, h1, he, _, l, resL_spec hT h2, fun x hx => .inl (by simp), hlo, ⟨fun m m' q1 q2 e => ?_, fun m o hm => ?_, fun m o hm => ?_⟩, fun m hm => ?_, ?_⟩
  · simp only [updL, upd] at q1 q2
    by_cases a : m = n
    · subst a
      rw [if_pos rfl] at e
      by_cases b : m' = m
      · exact b.symm
      · rw [if_neg b] at e
        subst e; cases hlo
    · by_cases b : m' = n
      · subst b
        rw [if_pos rfl, if_neg a] at e
        subst e; cases hlo
      · rw [if_neg a, if_neg b] at e; injection e
  · simp only [updL, upd] at hm
    by_cases a : m = n
    · subst a
      rw [if_pos rfl] at hm
      obtain rfl := Option.some.inj hm
      rw [if_pos rfl, AObj.map_nm0 (o := .cells ty (ls.map Leaf.cell)) fun x hx q => leaves_nm0 hx q]
      simp [ov, lkS]
    · rw [if_neg a] at hm
      rw [if_neg a]
      have e0 : (o.map fun m => if m = n then l else .out m) = o.map .out := by
        have hc := hcl m o hm
        cases o with
        | ints ty k L => rfl
        | acc ty k L => rfl
        | cells ty cs =>
          simp only [AObj.map]
          congr 1
          exact Cell.maps_congr fun x hx q hq => by rw [if_neg (hne q (hc x hx q hq))]
      rw [e0]
      have : ¬ Nm.out m = l := fun q => by subst q; cases hlo
      show ov _ (pushS S) _ = _
      simp only [ov, lkS, if_neg this, pushS, hm]
      rfl
  · simp only [updL, upd] at hm
    by_cases a : m = n
    · subst a
      rw [if_pos rfl] at hm
      obtain rfl := Option.some.inj hm
      exact AObj.cl_nm0 (o := .cells ty (ls.map Leaf.cell)) fun x hx q => leaves_nm0 hx q
    · rw [if_neg a] at hm
      exact cl_mono (fun q hq => upd_dom hq) (hcl m o hm)
  · have : n = m := hm
    subst this
    simp [updL, upd]
  · simp [oneR, AVal.map, AVal.map1, Cell.map]

theorem endN {T : TT} (hT : TOk P T) {fn : Func} {S : Store} {ty : TypeId} {ls : List Leaf} {e : Exit} {fl fl' : FL} {sl : SL} {l : Nm} (he : e = .normal ∨ e = .ret) (hS : ∀ n b, S n = some b → b.cl S) (hl : l.isOut = false) (ho : outsL sl = [])
    (hs : FrzS (ov sl (pushS S)) (ov [(l, .cells ty (ls.map Leaf.cell))] (pushS S)) [(l, .cells ty (ls.map Leaf.cell))]) (hf : FrzF (ov sl (pushS S)) (ov [(l, .cells ty (ls.map Leaf.cell))] (pushS S)) fl fl')
    (hr : resL T fl' fn.results.toList = some [.c (.ptr l 0)]) : EndN P fn S ty ls e ⟨lk' fl, ov sl (pushS S)⟩ :=
  ⟨he, T, fl', l, hT, hl, frz hS (by rw [ho]; cases l <;> first | rfl | cases hl) hs hf, hr⟩

variable {T : TT} {ops : Array Oper} {fl : FL} {sl : SL} {S : Store} {K : St → Prop} {d : Nat} {ty : TypeId} {pos : String} {after : Array Edge}

theorem s_new {f : FuncId} {as : Array Operand} {tys : Array TypeId} {xs args : List AVal} {tb : TypeId} {ls : List Leaf} (hc : ANew P f args tb ls) (k : K ⟨lk' ((d, .c (.ptr (.loc d) 0)) :: fl), ov ((.loc d, .cells tb (ls.map Leaf.cell)) :: sl) (pushS S)⟩) (hx : opsO fl as.toList = some xs := by exact rfl)
    (hle : ALes xs args := by repeat (first | exact trivial | refine ⟨ALe.refl _, ?_⟩ | refine ⟨.inr (.inl ⟨_, rfl, rfl⟩), ?_⟩)) (hf : freeO sl d = true := by exact rfl) :
    Stp P mu ops ⟨some d, .call ⟨.value (.func f), as, tys⟩, ty, pos, after, none⟩ ⟨lk' fl, ov sl (pushS S)⟩ K :=
  stp_call (hc.calls (ov sl (pushS S))) rfl hx (by simpa using hle) hf (fun _ _ => rfl)
    ⟨fun p hp => .inl (by simp at hp; rw [hp]; rfl), .inr (.inr ⟨d, _, rfl, rfl⟩), fun m hm => .inl ⟨(show Nm.loc d = m from hm).symm, .cells tb (ls.map Leaf.cell), by rw [← show Nm.loc d = m from hm]; simp [nmOf]⟩,
      fun p hp ty cs e x hx m hm => by
        simp at hp; subst hp
        simp only [AObj.cells.injEq] at e
        obtain ⟨-, rfl⟩ := e
        exact absurd hm (leaves_nm0 hx m)⟩ k
end

/-! ### Rows of cells -/
def FrzCs (A B : Store) : List Cell → List Cell → Prop
  | _, [] => True
  | x :: xs, y :: ys => FrzC A B x y ∧ FrzCs A B xs ys
  | [], _ :: _ => False
theorem FrzCs.at {A B : Store} : ∀ {xs ys : List Cell}, FrzCs A B xs ys → ∀ (i : Nat) (y : Cell), ys[i]? = some y → ∃ x, xs[i]? = some x ∧ FrzC A B x y
  | x :: xs, y :: ys, ⟨h1, h2⟩, i, z, hi => by
    match i with
    | 0 => simp only [List.getElem?_cons_zero, Option.some.injEq] at hi; subst hi; exact ⟨x, rfl, h1⟩
    | i + 1 => exact FrzCs.at h2 i z (by simpa using hi)
  | _, [], _, i, z, hi => by simp at hi
def FrzLs (A B : Store) : List Cell → List Leaf → Prop
  | _, [] => True
  | x :: xs, y :: ys => FrzC0 A B x y.cell ∧ FrzLs A B xs ys
  | [], _ :: _ => False
theorem FrzLs.at {A B : Store} : ∀ {xs : List Cell} {ys : List Leaf}, FrzLs A B xs ys → ∀ (i : Nat) (y : Leaf), ys[i]? = some y → ∃ x, xs[i]? = some x ∧ FrzC0 A B x y.cell
  | x :: xs, y :: ys, ⟨h1, h2⟩, i, z, hi => by
    match i with
    | 0 => simp only [List.getElem?_cons_zero, Option.some.injEq] at hi; subst hi; exact ⟨x, rfl, h1⟩
    | i + 1 => exact FrzLs.at h2 i z (by simpa using hi)
  | _, [], _, i, z, hi => by simp at hi

section
variable {A B : Store}
theorem kC {ty : TypeId} {xs ys : List Cell} (h : FrzCs A B xs ys) : FrzO A B (.cells ty xs) (.cells ty ys) := .cells h.at
theorem kP {m : Nm} {off : Nat} {ty : TypeId} {cs : List Cell} {ls : List Leaf} (hm : A m = some (.cells ty cs)) (hb : B m = none) (h : FrzLs A B (cs.drop off) ls) : FrzV A B (.c (.ptr m off)) (.c (.pim ls)) :=
  .c (.ptr hm hb fun j l hj => by
    obtain ⟨x, h1, h2⟩ := h.at j l hj
    exact ⟨x, by rw [List.getElem?_drop] at h1; exact h1, h2⟩)
theorem kPtr {m : Nm} {off : Nat} (hb : B m ≠ none) : FrzV A B (.c (.ptr m off)) (.c (.ptr m off)) := .c (.base (.keep fun q h => by rw [← show m = q from h]; exact hb))
theorem kPim {cs cs' : List Leaf} (h : cs = cs') : FrzV A B (.c (.pim cs)) (.c (.pim cs')) := by subst h; exact .c (.base (.keep fun q h => h.elim))
theorem kAgg {xs ys : List Cell} (hl : xs.length = ys.length) (h : FrzCs A B xs ys) : FrzV A B (.agg xs) (.agg ys) := .agg hl fun i x y h1 h2 => by
  obtain ⟨x', h3, h4⟩ := h.at i y h2
  rw [h1] at h3; obtain rfl := Option.some.inj h3; exact h4
theorem cS {v v' : Value} (h : v = v') : FrzC A B (.sc v) (.sc v') := by subst h; exact .base (.keep fun q h => h.elim)
theorem cI {k : IntKind} {L L' : List Int} (h : L = L') : FrzC A B (.ints k L) (.ints k L') := by subst h; exact .base (.keep fun q h => h.elim)
theorem cJ {k : IntKind} : FrzC A B (.sc (.slice none 0 0)) (.ints k []) := .base .nilI
theorem cW {m : Nm} {off len cm : Nat} {ty : TypeId} {k : IntKind} {L L' : List Int} (hm : A m = some (.ints ty k L)) (hb : B m = none) (hl : off + len ≤ L.length) (e : (L.drop off).take len = L') :
    FrzC A B (.win m off len cm) (.ints k L') := .base (.win hm hb hl e.symm)
theorem lS {v v' : Value} (h : v = v') : FrzC0 A B (.sc v) (.sc v') := by subst h; exact .keep fun q h => h.elim
theorem lI {k : IntKind} {L L' : List Int} (h : L = L') : FrzC0 A B (.ints k L) (.ints k L') := by subst h; exact .keep fun q h => h.elim
theorem lJ {k : IntKind} : FrzC0 A B (.sc (.slice none 0 0)) (.ints k []) := .nilI
theorem kB {b b' : Bool} (h : b = b') : FrzV A B (bvl b) (bvl b') := by subst h; exact kS
theorem kFn {f : FuncId} {xs : List Cell} (h : ∀ x ∈ xs, ∀ m, x.at m → B m ≠ none) : FrzV A B (.fn f xs) (.fn f xs) := .fn h
theorem kAcc {m : Nm} {ty : TypeId} {k : IntKind} {L L' : List Int} (hm : A m = some (.acc ty k L)) (hb : B m = none) (e : L = L') : FrzV A B (.accv m) (.c (.ints k L')) := by subst e; exact .acc hm hb
theorem kAccK {m : Nm} {o o' : AObj} (h1 : A m = some o) (h2 : B m = some o') (e : o = o') : FrzV A B (.accv m) (.accv m) := by subst e; exact .accK h1 h2
end
end Go.Abs

/-
  Structs put together, closures made, slices held against nil.
-/
namespace Go.Abs
open Go

def placesT (T : TT) : List Field → Option (List (Nat × Nat))
  | [] => some []
  | f :: fs => match celT T f.type, placesT T fs with
    | n + 1, some r => some ((f.offset, n + 1) :: r)
    | _, _ => none

theorem under_info {P : Program} {t : TypeId} {d : TypeDesc} (h : P.underlying t = some d) : P.info? t ≠ none := by
  intro e; simp [Program.underlying, e] at h

theorem celT_info {P : Program} {T : TT} (hT : TOk P T) {t n : Nat} (h : celT T t = n + 1) : P.info? t ≠ none := by
  unfold celT at h
  split at h
  · rename_i i hi; exact under_info (hT.at hi).1
  · cases h

theorem placesT_spec {P : Program} {T : TT} (hT : TOk P T) : ∀ {fs : List Field} {pl : List (Nat × Nat)}, placesT T fs = some pl → fs.map (fun f => (f.offset, P.cellsOf f.type)) = pl ∧ ∀ f ∈ fs, P.info? f.type ≠ none
  | [], pl, h => by simp only [placesT, Option.some.injEq] at h; subst h; simp
  | f :: fs, pl, h => by
    simp only [placesT] at h
    split at h
    · rename_i n r h1 h2
      obtain ⟨h3, h4⟩ := placesT_spec hT h2
      simp only [Option.some.injEq] at h
      subst h
      refine ⟨by simp [h3, hT.cel h1 (by simp)], fun g hg => ?_⟩
      rcases List.mem_cons.1 hg with rfl | hg
      · exact celT_info hT h1
      · exact h4 g hg
    · cases h

def fillF (fl : FL) (pl : List (Nat × Nat)) : List Cell → List (Nat × Operand) → Option (List Cell)
  | cs, [] => some cs
  | cs, (i, x) :: r => match pl[i]?, opO fl x with
    | some (off, 1), some (.c y) => match solidF y, setL cs off y with
      | true, some cs' => fillF fl pl cs' r
      | _, _ => none
    | some (off, n), some (.agg ys) => match Nat.beq ys.length n, Nat.ble (off + n) cs.length with
      | true, true => fillF fl pl (spl cs off ys) r
      | _, _ => none
    | _, _ => none
theorem fillF_spec {fl : FL} {pl : List (Nat × Nat)} {place : Nat → Option (Nat × Nat)} (hp : ∀ i q, pl[i]? = some q → place i = some q) : ∀ {ps : List (Nat × Operand)} {cs out : List Cell}, fillF fl pl cs ps = some out → fillE place (look (lk' fl)) cs ps out
  | [], cs, out, h => by simp only [fillF, Option.some.injEq] at h; exact h.symm
  | (i, x) :: r, cs, out, h => by
    simp only [fillF] at h
    split at h
    · rename_i off y h1 h2
      split at h
      · rename_i cs' h3 h4
        obtain ⟨h5, rfl⟩ := setL_spec h4
        have ih := fillF_spec hp h
        exact ⟨off, 1, hp _ _ h1, by rw [opO_look h2]; exact solidF_spec h3, by rw [opO_look h2]; rfl, h5, by rw [opO_look h2]; exact ih⟩
      · cases h
    · rename_i off n ys h1 h2
      split at h
      · rename_i h3 h4
        have h3 := Nat.eq_of_beq_eq_true h3
        have h4 := Nat.le_of_ble_eq_true h4
        have ih := fillF_spec hp h
        exact ⟨off, n, hp _ _ h1, by rw [opO_look h2]; trivial, by rw [opO_look h2]; exact h3, h4, by rw [opO_look h2]; exact ih⟩
      · cases h
    · cases h

def capsF : List AVal → Option (List Cell)
  | [] => some []
  | .c y :: xs => match solidF y, capsF xs with
    | true, some r => some (y :: r)
    | _, _ => none
  | _ => none
theorem capsF_spec : ∀ {xs : List AVal} {cs : List Cell}, capsF xs = some cs → xs = cs.map .c ∧ ∀ y ∈ cs, y.solid
  | [], cs, h => by simp only [capsF, Option.some.injEq] at h; subst h; simp
  | .c y :: xs, cs, h => by
    simp only [capsF] at h
    split at h
    · rename_i r h1 h2
      obtain ⟨h3, h4⟩ := capsF_spec h2
      simp only [Option.some.injEq] at h
      subst h
      refine ⟨by simp [h3], fun z hz => ?_⟩
      rcases List.mem_cons.1 hz with rfl | hz
      · exact solidF_spec h1
      · exact h4 z hz
    · cases h
  | .agg _ :: _, _, h => by cases h
  | .fn _ _ :: _, _, h => by cases h
  | .accv _ :: _, _, h => by cases h
  | .tup _ :: _, _, h => by cases h

def splF : List Cell → Nat → List Cell → Option (List Cell)
  | [], 0, [] => some []
  | [], _, _ => none
  | c :: cs, 0, [] => match splF cs 0 [] with | some r => some (c :: r) | none => none
  | _ :: cs, 0, y :: ys => match splF cs 0 ys with | some r => some (y :: r) | none => none
  | c :: cs, n + 1, ys => match splF cs n ys with | some r => some (c :: r) | none => none
theorem splF_spec : ∀ {cs : List Cell} {n : Nat} {ys cs' : List Cell}, splF cs n ys = some cs' → spl cs n ys = cs' ∧ n + ys.length ≤ cs.length
  | [], 0, [], cs', h => by simp only [splF, Option.some.injEq] at h; subst h; simp [spl]
  | [], 0, y :: ys, cs', h => by simp [splF] at h
  | [], n + 1, ys, cs', h => by simp [splF] at h
  | c :: cs, 0, [], cs', h => by
    simp only [splF] at h
    split at h
    · rename_i r hr
      obtain ⟨h1, h2⟩ := splF_spec hr
      simp only [Option.some.injEq] at h
      subst h
      simp [spl] at h1 ⊢
      exact h1
    · cases h
  | c :: cs, 0, y :: ys, cs', h => by
    simp only [splF] at h
    split at h
    · rename_i r hr
      obtain ⟨h1, h2⟩ := splF_spec hr
      simp only [Option.some.injEq] at h
      subst h
      simp [spl] at h1 ⊢
      exact ⟨h1, by omega⟩
    · cases h
  | c :: cs, n + 1, ys, cs', h => by
    simp only [splF] at h
    split at h
    · rename_i r hr
      obtain ⟨h1, h2⟩ := splF_spec hr
      simp only [Option.some.injEq] at h
      subst h
      simp [spl, Nat.add_right_comm n 1] at h1 ⊢
      exact ⟨h1, by omega⟩
    · cases h

section
variable {P : Program} {T : TT} {mu : FuncId → Bool} {N : Nat} {ops : Array Oper} {fl : FL} {sl : SL} {S S' : Store} {K : St → Prop} {Q : Exit → St → Prop} {l : List Oper}
  {d : Nat} {ty : TypeId} {pos : String} {after : Array Edge}

theorem zg16 {t : TypeId} {ps : Array (Nat × Operand)} {fs : Array Field} {pl : List (Nat × Nat)} {z out : List Cell} (hT : TOk P T) (k : K ⟨lk' ((d, .agg out) :: fl), S'⟩) (hu : undT T t = some (.struct fs) := by exact rfl) (hp : placesT T fs.toList = some pl := by exact rfl)
    (hz : zerF T t = some z := by exact rfl) (hf : fillF fl pl z ps.toList = some out := by exact rfl) :
    Stp P mu ops ⟨some d, .build t ps, ty, pos, after, none⟩ ⟨lk' fl, S'⟩ K := by
  obtain ⟨h1, h2⟩ := placesT_spec hT hp
  obtain ⟨h3, h4⟩ := zerF_spec hT hz
  refine ⟨_, ⟨.agg out, S', ⟨?_, rfl⟩, rfl⟩, by rw [putF_lk]; exact k⟩
  refine ⟨fs, z, out, hT.und hu, fun f hf => h2 f (by simpa using hf), h3, h4, fillF_spec (fun i q hq => ?_) hf, rfl⟩
  rw [← h1] at hq
  simpa [placesOf] using hq

theorem zg17 {g : FuncId} {cap : Array Operand} {xs : List AVal} {cs : List Cell} (_ : TOk P T) (k : K ⟨lk' ((d, .fn g cs) :: fl), S'⟩) (hx : opsO fl cap.toList = some xs := by exact rfl) (hc : capsF xs = some cs := by exact rfl) :
    Stp P mu ops ⟨some d, .makeFunc (.func g) #[] cap, ty, pos, after, none⟩ ⟨lk' fl, S'⟩ K := by
  obtain ⟨h1, h2⟩ := capsF_spec hc
  exact ⟨_, ⟨.fn g cs, S', ⟨⟨rfl, cs, by rw [opsO_look hx, h1], h2, rfl⟩, rfl⟩, rfl⟩, by rw [putF_lk]; exact k⟩

theorem zg18 {e : TypeId} {x : Operand} {ys : List Cell} (_ : TOk P T) (k : K ⟨lk' ((d, .c (.ptr (.loc d) 0)) :: fl), ov ((.loc d, .cells e ys) :: sl) (pushS S)⟩) (hx : opO fl x = some (.agg ys) := by exact rfl) (hf : freeO sl d = true := by exact rfl) :
    Stp P mu ops ⟨some d, .box e x, ty, pos, after, none⟩ ⟨lk' fl, ov sl (pushS S)⟩ K :=
  ⟨_, ⟨_, _, ⟨d, .cells e ys, rfl, freeO_spec hf, ⟨by rw [opO_look hx]; trivial, rfl, by rw [opO_look hx]; rfl⟩, rfl⟩, rfl⟩, by rw [putF_lk, upd_ov]; exact k⟩

theorem zg19 {e : TypeId} {x : Operand} {y : Cell} (_ : TOk P T) (k : K ⟨lk' ((d, .c (.ptr (.loc d) 0)) :: fl), ov ((.loc d, .cells e [y]) :: sl) (pushS S)⟩) (hx : opO fl x = some (.c y) := by exact rfl) (hs : solidF y = true := by exact rfl) (hf : freeO sl d = true := by exact rfl) :
    Stp P mu ops ⟨some d, .box e x, ty, pos, after, none⟩ ⟨lk' fl, ov sl (pushS S)⟩ K := stp_box hx hs hf k

theorem zg20 {t : TypeId} {x : Operand} {m : Nm} {off n : Nat} {ty' : TypeId} {cs : List Cell} (hT : TOk P T) (k : K ⟨lk' ((d, .agg ((cs.drop off).take (n + 1))) :: fl), ov sl S⟩) (hx : opO fl x = some (.c (.ptr m off)) := by exact rfl) (ha : agT T t = some true := by exact rfl) (hn : celT T t = n + 1 := by exact rfl)
    (hm : lkS sl m = some (.cells ty' cs) := by exact lks) (hl : Nat.ble (off + (n + 1)) cs.length = true := by exact rfl) : Stp P mu ops ⟨some d, .load t x, ty, pos, after, none⟩ ⟨lk' fl, ov sl S⟩ K :=
  stp_loada hT hx ha hn hm (Nat.le_of_ble_eq_true hl) k

theorem zg21 {t : TypeId} {x : Operand} {cs : List Leaf} {n : Nat} (hT : TOk P T) (k : K ⟨lk' ((d, .agg ((cs.take (n + 1)).map Leaf.cell)) :: fl), S'⟩) (hx : opO fl x = some (.c (.pim cs)) := by exact rfl) (ha : agT T t = some true := by exact rfl) (hn : celT T t = n + 1 := by exact rfl) (hl : Nat.ble (n + 1) cs.length = true := by exact rfl) :
    Stp P mu ops ⟨some d, .load t x, ty, pos, after, none⟩ ⟨lk' fl, S'⟩ K := stp_loadpa hT hx ha hn (Nat.le_of_ble_eq_true hl) k

theorem zg22 {t : TypeId} {x y : Operand} {m : Nm} {off n : Nat} {ty' : TypeId} {cs ys cs' : List Cell} (hT : TOk P T) (k : K ⟨lk' fl, ov ((m, .cells ty' cs') :: sl) S⟩) (hx : opO fl x = some (.c (.ptr m off)) := by exact rfl) (hy : opO fl y = some (.agg ys) := by exact rfl) (hn : celT T t = n + 1 := by exact rfl)
    (hm : lkS sl m = some (.cells ty' cs) := by exact lks) (h1 : Nat.beq ys.length (n + 1) = true := by exact rfl) (h2 : splF cs off ys = some cs' := by exact rfl) : Stp P mu ops ⟨none, .store t x y, ty, pos, after, none⟩ ⟨lk' fl, ov sl S⟩ K := by
  obtain ⟨rfl, h3⟩ := splF_spec h2
  exact stp_store (o' := .cells ty' (spl cs off ys)) (C := ys.length = n + 1 ∧ off + ys.length ≤ cs.length) hT hx hy hm (by simp only [putO, hn]) ⟨Nat.eq_of_beq_eq_true h1, h3⟩ k

/-- A list of whole numbers, to be appended to. -/
theorem s_intsA {t e : TypeId} {n : Nat} {ps : Array (Nat × Operand)} {k : IntKind} {L : List Int} (hT : TOk P T) (kk : K ⟨lk' ((d, .accv (.loc d)) :: fl), ov ((.loc d, .acc e k L) :: sl) (pushS S)⟩)
    (hp : intsPart fl ps.toList 0 = some (k, L) ∨ (ps.toList = [] ∧ L = []) := by first | exact .inl rfl | exact .inr ⟨rfl, rfl⟩) (ht : undT T t = some (.slice e) := by exact rfl) (hc1 : celT T e = 1 := by exact rfl) (hz : zerF T e = some [.sc (.int k 0)] := by exact rfl)
    (hn : Nat.beq ps.toList.length n = true := by exact rfl) (hsmall : Nat.ble n 1000 = true := by exact rfl) (hf : freeO sl d = true := by exact rfl) :
    Stp P mu ops ⟨some d, .buildSlice t n ps, ty, pos, after, none⟩ ⟨lk' fl, ov sl (pushS S)⟩ K := stp_intsA hT ht hc1 hz hp hn hsmall hf kk

theorem s_makeA {t e : TypeId} {l c : Operand} {a b : Int} {ka kb k : IntKind} {nb : Nat} (hT : TOk P T) (hab : a = b) (hb : 0 ≤ a ∧ (nb : Int) * b ≤ 281474976710656 ∧ b ≤ 9223372036854775807) (kk : K ⟨lk' ((d, .accv (.loc d)) :: fl), ov ((.loc d, .acc e k (List.replicate b.toNat 0)) :: sl) (pushS S)⟩)
    (ht : undT T t = some (.slice e) := by exact rfl) (hc1 : celT T e = 1 := by exact rfl) (hb8 : bytT T e = some nb := by exact rfl) (hz : zerF T e = some [.sc (.int k 0)] := by exact rfl)
    (hl : opO fl l = some (ivl ka a) := by exact rfl) (hc : opO fl c = some (ivl kb b) := by exact rfl) (hf : freeO sl d = true := by exact rfl) :
    Stp P mu ops ⟨some d, .makeSlice t l c, ty, pos, after, none⟩ ⟨lk' fl, ov sl (pushS S)⟩ K := stp_makeA hT ht hc1 hb8 hz hl hc hf hab hb kk

theorem run_eq_nil {t e : TypeId} (ht : P.underlying t = some (.slice e)) (A : Option Addr) (n c : Nat) (w : World) : (Op.equal t (.slice A n c) (.slice none 0 0)).run P w = .ok A.isNone w := by
  have : ∀ d, (Op.equalIn (d + 1) t (.slice A n c) (.slice none 0 0)).run P w = .ok A.isNone w := fun d => by
    cases A <;> simp [Op.equalIn, run_underlying' ht]
  exact this 9999

/-- A list held against nil: what is nil is empty. -/
theorem aw_isnil (hT : TOk P T) {op : BinOp} {x : Operand} {t t1 : TypeId} {e : TypeId} {k : IntKind} {L : List Int} (neg : Bool) (h1 : L = [] → aw P mu N ops Q l ⟨lk' ((d, bvl (!neg)) :: fl), S'⟩) (h2 : aw P mu N ops Q l ⟨lk' ((d, bvl neg) :: fl), S'⟩)
    (hop : op = (if neg then .neq else .eql) := by exact rfl) (hu : undT T t = some (.slice e) := by exact rfl) (hx : opO fl x = some (.c (.ints k L)) := by exact rfl) :
    aw P mu N ops Q (⟨some d, .binOp op t x (.const (.slice none 0 0)) t1, ty, pos, after, none⟩ :: l) ⟨lk' fl, S'⟩ := by
  intro hb B w ρ a hd hn hi
  refine wpList_step fun K hK => ?_
  have hv := hi.sim.look x
  rw [opO_look hx] at hv
  obtain ⟨A, cap, hv, -, -, hv3⟩ := hv
  simp only [Region.wanted, if_true]
  have go : ∀ b : Bool, aw P mu N ops Q l ⟨lk' ((d, bvl b) :: fl), S'⟩ → K (a.put (some d) (.bool b)) w := fun b h => by
    have hdl : ∀ t, some d = some t → t < a.tmps.size := fun t ht => by rw [hn]; exact hb _ List.mem_cons_self t ht
    have hs := hi.sim.put (d := some d) (v := bvl b) (u := .bool b) hi.sim.env (Ext.refl _ _ _) (lk' fl) (fun t => .inr ⟨rfl, fun _ hX => hX.elim⟩) hdl (rfl : Value.bool b = .bool b)
    rw [putF_lk] at hs
    exact hK _ _ (h (fun o ho => hb o (by simp [ho])) B w ρ _ (by rw [put_defers]; exact hd) (by rw [put_size]; exact hn) (hi.step hs (Ext.refl _ _ _) (fun _ h => h.elim)))
  have hrun : (execOp a.eval ⟨some d, .binOp op t x (.const (.slice none 0 0)) t1, ty, pos, after, none⟩).run P w = .ok (.value (.bool (A.isNone != neg))) w := by
    have e1 : a.eval x = .slice A L.length cap := hv
    have e2 : a.eval (.const (.slice none 0 0)) = .slice none 0 0 := rfl
    subst hop
    cases neg
    · simp only [execOp, e1, e2, if_false, Bool.false_eq_true]
      simp [eqGuard, binOp, run_eq_nil (hT.und hu)]
    · simp only [execOp, e1, e2, if_true]
      simp [eqGuard, binOp, run_eq_nil (hT.und hu)]
  unfold Oper.wp
  rw [hrun]
  cases A with
  | none =>
    have hL : L = [] := by
      cases L with
      | nil => rfl
      | cons y ys => obtain ⟨b, off, q, -⟩ := hv3 (by simp); cases q
    have := go (!neg) (h1 hL)
    cases neg <;> exact this
  | some A =>
    have := go neg h2
    cases neg <;> exact this
end
end Go.Abs
