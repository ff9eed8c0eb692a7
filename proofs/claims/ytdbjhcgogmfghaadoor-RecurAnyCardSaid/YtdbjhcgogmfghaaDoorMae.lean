/-
  An abstract machine for this program, and contracts of its functions: part Mae (no statement by itself).
-/
import Derived.Test.YtdbjhcgogmfghaaDoorMad
set_option linter.unusedVariables false
set_option linter.unusedSimpArgs false
set_option linter.unnecessarySimpa false

/-
  Calls, appends; states that say less, in the midst of a region; loops.
-/
namespace Go.Abs
open Go

def nm0 (x : AVal) : Prop := ∀ m, ¬ x.at m

structure AFun (P : Program) (f : FuncId) (args : List AVal) (res : AVal) : Prop where
  calls : ∀ Φ, ACalls P f args Φ (fun _ => res) (fun _ => [])
  res0 : nm0 res
  args0 : ∀ x ∈ args, nm0 x

structure ASide (mu : FuncId → Bool) (f : FuncId) (d : Option Nat) (Φ : Store) (args : List AVal) (res : AVal) (ups : List (Nm × AObj)) : Prop where
  a1 : ∀ p ∈ ups, p.1 = nmOf d ∨ (∃ i, p.1 = .fam (nmOf d) i) ∨ (mu f = true ∧ Rch Φ args p.1)
  a2 : ups = [] ∨ (mu f = true) ∨ ∃ k o, d = some k ∧ ups = [(nmOf d, o)]
  a3 : ∀ m, res.at m → (∃ o, (m, o) ∈ ups) ∨ Rch Φ args m
  a4 : ∀ p ∈ ups, ∀ x ∈ p.2.cls, ∀ m, x.at m → (∃ o, (m, o) ∈ ups) ∨ Rch Φ args m

def addL : SL → SL → SL
  | sl, [] => sl
  | sl, p :: ups => addL (p :: sl) ups
theorem updL_ov {S : Store} : ∀ (ups : SL) (sl : SL), updL (ov sl S) ups = ov (addL sl ups) S
  | [], sl => rfl
  | p :: ups, sl => by simp only [updL, addL]; rw [upd_ov]; exact updL_ov ups _

section
variable {P : Program} {T : TT} {mu : FuncId → Bool} {N : Nat} {ops : Array Oper} {fl : FL} {sl : SL} {S : Store} {K : St → Prop}
  {d : Nat} {ty : TypeId} {pos : String} {after : Array Edge}

theorem kindC_val {f : Operand} {args : Array Operand} {tys : Array TypeId} : ¬ kindC mu ⟨.value f, args, tys⟩ = .app := by
  cases f <;> simp [kindC]
  split <;> simp

theorem stp_call {g : Operand} {f : FuncId} {caps : List Cell} {as : Array Operand} {tys : Array TypeId} {xs args : List AVal} {Φ : Store} {res : Nm → AVal} {ups : Nm → List (Nm × AObj)}
    (hc : ACalls P f args Φ res ups) (hg : opO fl g = some (.fn f caps)) (hx : opsO fl as.toList = some xs) (hle : ALes (xs ++ caps.map .c) args) (hf : freeO sl d = true) (hΦ : ∀ m, Rch Φ args m → ov sl (pushS S) m = Φ m)
    (hs : ASide mu f (some d) Φ args (res (.loc d)) (ups (.loc d))) (k : K ⟨lk' ((d, res (.loc d)) :: fl), ov (addL sl (ups (.loc d))) (pushS S)⟩) :
    Stp P mu ops ⟨some d, .call ⟨.value g, as, tys⟩, ty, pos, after, none⟩ ⟨lk' fl, ov sl (pushS S)⟩ K := by
  refine ⟨⟨putF (lk' fl) (some d) (res (.loc d)), updL (ov sl (pushS S)) (ups (.loc d))⟩, ?_, by rw [putF_lk, updL_ov]; exact k⟩
  simp only [aStep, aExec, if_neg kindC_val]
  exact ⟨_, _, ⟨f, caps, args, Φ, res, ups, opO_look hg, by rw [opsO_look hx]; exact hle, hc, hΦ, ⟨freeO_spec hf, fun i => freeO_fam i hf⟩, rfl, rfl, hs.a1, hs.a2, hs.a3, hs.a4⟩, rfl⟩

theorem stp_callF {f : FuncId} {as : Array Operand} {tys : Array TypeId} {xs args : List AVal} {res : AVal} (hc : AFun P f args res) (hx : opsO fl as.toList = some xs) (hle : ALes xs args) (hf : freeO sl d = true)
    (k : K ⟨lk' ((d, res) :: fl), ov sl (pushS S)⟩) : Stp P mu ops ⟨some d, .call ⟨.value (.func f), as, tys⟩, ty, pos, after, none⟩ ⟨lk' fl, ov sl (pushS S)⟩ K :=
  stp_call (hc.calls (ov sl (pushS S))) rfl hx (by simpa using hle) hf (fun _ _ => rfl) ⟨by simp, .inl rfl, fun m hm => absurd hm (hc.res0 m), by simp⟩ k

def killL (n : Nm) : FL → FL
  | [] => []
  | (t, .accv m k) :: r => (t, killF n (.accv m k)) :: killL n r
  | (t, .accp m k) :: r => (t, killF n (.accp m k)) :: killL n r
  | (t, v) :: r => (t, v) :: killL n r
theorem killL_lk (n : Nm) : ∀ fl : FL, (fun t => killF n (lk' fl t)) = lk' (killL n fl)
  | [] => by funext t; rfl
  | (s, v) :: r => by
    funext t
    have ih := congrFun (killL_lk n r) t
    have key : killF n (lk' ((s, v) :: r) t) = lk' ((s, killF n v) :: killL n r) t := by
      simp only [lk', lkO] at ih ⊢
      cases Nat.beq s t with
      | true => rfl
      | false => exact ih
    cases v <;> exact key

abbrev srcE (S : Store) (x : AVal) (k : IntKind) (Y : List Int) : Prop := srcR S x 1 (ir k Y)
theorem ir_one {k : IntKind} {L : List Int} : ∀ c ∈ ir k L, c.length = 1 := fun c hc => by obtain ⟨y, -, rfl⟩ := List.mem_map.1 hc; rfl
theorem srcE_win {e : TypeId} {m : Nm} {k : IntKind} {L : List Int} {off len cm : Nat} (hm : lkS sl m = some (.ints e k L)) (h : off + len ≤ L.length) : srcE (ov sl S) (.c (.win m off len cm)) k ((L.drop off).take len) :=
  ⟨ir_one, by rw [List.length_map, List.length_take, List.length_drop]; omega, e, .inl ⟨k, L, ov_of hm, rfl, h, rfl⟩⟩
theorem srcE_ints {k : IntKind} {L : List Int} : srcE S (.c (.ints k L)) k L := ⟨rfl, rfl⟩
theorem srcE_held {w : World} {ρ : Nm → Nat} {S : Store} (he : EnvS w ρ S) {x : AVal} {u : Value} {k : IntKind} {Y : List Int} (hx : VS w ρ S x u) (h : srcE S x k Y) :
    (Y = [] ∧ ∃ A c, u = .slice A 0 c) ∨ (Y ≠ [] ∧ ∃ b off c, u = .slice (some ⟨b, off, none⟩) Y.length c ∧ ∀ (j : Nat) u', (Y.map (Value.int k))[j]? = some u' → w.cell? ⟨b, off + j, none⟩ = some u') := by
  rcases srcR_held he (by decide) hx h with ⟨h1, h2⟩ | ⟨h1, b, off, c, news, rfl, hnews, hcell⟩
  · exact .inl ⟨by simpa using h1, h2⟩
  · have e : (ir k Y).length = Y.length := List.length_map ..
    rw [flat_ir] at hnews
    have hnews' : news = Y.map (Value.int k) := by
      apply List.ext_getElem?
      intro j
      rcases Nat.lt_or_ge j Y.length with g | g
      · obtain ⟨u, p1, -, p3⟩ := hnews.2 j (.sc (.int k Y[j])) (by simp [intsOf])
        have : u = .int k Y[j] := p3
        rw [p1, this, List.getElem?_map, List.getElem?_eq_getElem g]; rfl
      · rw [List.getElem?_eq_none (by rw [← hnews.1]; simpa [intsOf] using g), List.getElem?_eq_none (by simpa using g)]
    subst hnews'
    exact .inr ⟨by intro e; exact h1 (by rw [e]; rfl), b, off, c, by rw [e], hcell⟩

def zlen (z : Value) (n : Nat) : Bool := Nat.beq z.cells.size n

theorem stp_appG (hT : TOk P T) {s x : Operand} {tys : Array TypeId} {t e : TypeId} {as : Array Operand} {m : Nm} {sz n0 : Nat} {L Y : List (List Cell)} {xv : AVal} {z : Value} (ha : as.toList = [s, x]) (ht : tys.toList = [t, t]) (hu : undT T t = some (.slice e)) (hc1 : celT T e = sz) (hsz : 0 < sz)
    (hz : zerT T e = some z) (hzl : zlen z sz = true) (hs : opO fl s = some (.accv m n0)) (hx : opO fl x = some xv) (hm : lkS sl m = some (.acc e sz L)) (hn : L.length = n0) (ho : m.isOut = false) (hY : srcR (ov sl S) xv sz Y)
    {nb : Nat} (hb : bytT T e = some nb) (hl : (L.length + Y.length) * nb ≤ 140737488355328 ∧ L.length + Y.length ≤ maxLen) (kk : K ⟨lk' ((d, .accv m (n0 + Y.length)) :: killL m fl), ov ((m, .acc e sz (L ++ Y)) :: sl) S⟩) :
    Stp P mu ops ⟨some d, .call ⟨.builtin .append, as, tys⟩, ty, pos, after, none⟩ ⟨lk' fl, ov sl S⟩ K := by
  refine ⟨⟨putF (fun t => killF m (lk' fl t)) (some d) (.accv m (n0 + Y.length)), upd (ov sl S) m (.acc e sz (L ++ Y))⟩, ?_, by rw [killL_lk, putF_lk, upd_ov]; exact kk⟩
  refine .inl ⟨d, .accv m (n0 + Y.length), m, _, rfl, rfl, ?_, rfl⟩
  simp only [appE, ha, ht]
  have hb := hT.byt hb
  refine ⟨trivial, e, sz, Y, z, hT.und hu, hT.cel hc1 (by omega), hsz, hT.zer hz, Nat.eq_of_beq_eq_true hzl, by rw [opO_look hx]; exact hY, ?_⟩
  rw [opO_look hs]
  exact ⟨rfl, rfl, L, hn, ov_of hm, by rw [hb]; exact hl.1, hl.2, rfl, ho⟩

theorem stp_appG0 (hT : TOk P T) {s x : Operand} {tys : Array TypeId} {t e : TypeId} {as : Array Operand} {sz : Nat} {Y : List (List Cell)} {xv : AVal} {z : Value} (ha : as.toList = [s, x]) (ht : tys.toList = [t, t]) (hu : undT T t = some (.slice e)) (hc1 : celT T e = sz) (hsz : 0 < sz)
    (hz : zerT T e = some z) (hzl : zlen z sz = true) (hs : opO fl s = some nils) (hx : opO fl x = some xv) (hf : freeO sl d = true) (hY : srcR (ov sl (pushS S)) xv sz Y)
    {nb : Nat} (hb : bytT T e = some nb) (hl : Y.length * nb ≤ 140737488355328 ∧ Y.length ≤ maxLen) (kk : K ⟨lk' ((d, .accv (.loc d) Y.length) :: killL (.loc d) fl), ov ((.loc d, .acc e sz Y) :: sl) (pushS S)⟩) :
    Stp P mu ops ⟨some d, .call ⟨.builtin .append, as, tys⟩, ty, pos, after, none⟩ ⟨lk' fl, ov sl (pushS S)⟩ K := by
  refine ⟨⟨putF (fun t => killF (.loc d) (lk' fl t)) (some d) (.accv (.loc d) Y.length), upd (ov sl (pushS S)) (.loc d) (.acc e sz Y)⟩, ?_, by rw [killL_lk, putF_lk, upd_ov]; exact kk⟩
  refine .inl ⟨d, .accv (.loc d) Y.length, .loc d, _, rfl, rfl, ?_, rfl⟩
  simp only [appE, ha, ht]
  have hb := hT.byt hb
  refine ⟨trivial, e, sz, Y, z, hT.und hu, hT.cel hc1 (by omega), hsz, hT.zer hz, Nat.eq_of_beq_eq_true hzl, by rw [opO_look hx]; exact hY, ?_⟩
  rw [opO_look hs]
  exact ⟨rfl, trivial, freeO_spec hf, by rw [hb]; exact hl.1, hl.2, rfl⟩

theorem stp_app (hT : TOk P T) {s x : Operand} {tys : Array TypeId} {t e : TypeId} {as : Array Operand} {m : Nm} {n0 : Nat} {k : IntKind} {L Y : List Int} {xv : AVal} (ha : as.toList = [s, x]) (ht : tys.toList = [t, t]) (hu : undT T t = some (.slice e)) (hc1 : celT T e = 1)
    (hz : zerT T e = some (.int k 0)) (hs : opO fl s = some (.accv m n0)) (hx : opO fl x = some xv) (hm : lkS sl m = some (.accI e k L)) (hn : L.length = n0) (ho : m.isOut = false) (hY : srcE (ov sl S) xv k Y)
    {nb : Nat} (hb : bytT T e = some nb) (hl : (L.length + Y.length) * nb ≤ 140737488355328 ∧ L.length + Y.length ≤ maxLen) (kk : K ⟨lk' ((d, .accv m (n0 + Y.length)) :: killL m fl), ov ((m, .accI e k (L ++ Y)) :: sl) S⟩) :
    Stp P mu ops ⟨some d, .call ⟨.builtin .append, as, tys⟩, ty, pos, after, none⟩ ⟨lk' fl, ov sl S⟩ K := by
  have e1 : ir k (L ++ Y) = ir k L ++ ir k Y := List.map_append ..
  have e2 : (ir k L).length = L.length := List.length_map ..
  have e3 : (ir k Y).length = Y.length := List.length_map ..
  refine stp_appG hT ha ht hu hc1 (by decide) hz rfl hs hx hm (by rw [e2]; exact hn) ho hY hb (by rw [e2, e3]; exact hl) ?_
  rw [e3, ← e1]; exact kk

theorem stp_app0 (hT : TOk P T) {s x : Operand} {tys : Array TypeId} {t e : TypeId} {as : Array Operand} {k : IntKind} {Y : List Int} {xv : AVal} (ha : as.toList = [s, x]) (ht : tys.toList = [t, t]) (hu : undT T t = some (.slice e)) (hc1 : celT T e = 1)
    (hz : zerT T e = some (.int k 0)) (hs : opO fl s = some nils) (hx : opO fl x = some xv) (hf : freeO sl d = true) (hY : srcE (ov sl (pushS S)) xv k Y)
    {nb : Nat} (hb : bytT T e = some nb) (hl : Y.length * nb ≤ 140737488355328 ∧ Y.length ≤ maxLen) (kk : K ⟨lk' ((d, .accv (.loc d) Y.length) :: killL (.loc d) fl), ov ((.loc d, .accI e k Y) :: sl) (pushS S)⟩) :
    Stp P mu ops ⟨some d, .call ⟨.builtin .append, as, tys⟩, ty, pos, after, none⟩ ⟨lk' fl, ov sl (pushS S)⟩ K := by
  have e3 : (ir k Y).length = Y.length := List.length_map ..
  refine stp_appG0 hT ha ht hu hc1 (by decide) hz rfl hs hx hf hY hb (by rw [e3]; exact hl) ?_
  rw [e3]; exact kk

theorem stp_appR (hT : TOk P T) {s x : Operand} {tys : Array TypeId} {t e : TypeId} {as : Array Operand} {m : Nm} {k : IntKind} {L Y : List Int} {len cm : Nat} {xv : AVal} (ha : as.toList = [s, x]) (ht : tys.toList = [t, t]) (hu : undT T t = some (.slice e)) (hc1 : celT T e = 1)
    (hz : zerT T e = some (.int k 0)) (hs : opO fl s = some (.c (.win m 0 len cm))) (hx : opO fl x = some xv) (hm : lkS sl m = some (.ints e k L)) (hY : srcE (ov sl S) xv k Y)
    (hl : len + Y.length ≤ cm ∧ len + Y.length ≤ L.length) (kk : K ⟨lk' ((d, .c (.win m 0 (len + Y.length) cm)) :: killL m fl), ov ((m, .ints e k (L.take len ++ Y ++ L.drop (len + Y.length))) :: sl) S⟩) :
    Stp P mu ops ⟨some d, .call ⟨.builtin .append, as, tys⟩, ty, pos, after, none⟩ ⟨lk' fl, ov sl S⟩ K := by
  refine ⟨⟨putF (fun t => killF m (lk' fl t)) (some d) (.c (.win m 0 (len + Y.length) cm)), upd (ov sl S) m (.ints e k (L.take len ++ Y ++ L.drop (len + Y.length)))⟩, ?_, by rw [killL_lk, putF_lk, upd_ov]; exact kk⟩
  refine .inl ⟨d, .c (.win m 0 (len + Y.length) cm), m, _, rfl, rfl, ?_, rfl⟩
  simp only [appE, ha, ht]
  refine ⟨trivial, e, 1, ir k Y, _, hT.und hu, hT.cel hc1 (by simp), by decide, hT.zer hz, rfl, by rw [opO_look hx]; exact hY, ?_⟩
  rw [opO_look hs]
  have e3 : (ir k Y).length = Y.length := List.length_map ..
  exact ⟨rfl, by rw [e3]; exact hl.1, by rw [e3], .inl ⟨k, L, Y, ov_of hm, rfl, rfl, rfl, by rw [e3]; exact hl.2, rfl⟩⟩

/-! ### In the midst of a region -/
def aw (P : Program) (_mu : FuncId → Bool) (N : Nat) (ops : Array Oper) (Q : Exit → St → Prop) (l : List Oper) (st : St) : Prop :=
  (∀ o ∈ l, ∀ t, o.dst = some t → t < N) → ∀ (B : Base) (w : World) (ρ : Nm → Nat) (a : Act), a.defers = [] → a.tmps.size = N → Inv B w ρ st a.tmps → wpList P ops (Ends B N Q) l a w

variable {Q : Exit → St → Prop} {st F : St}

theorem aw_nil (h : Q .normal st) : aw P mu N ops Q [] st := fun _ _ _ ρ _ hd hn hi => ⟨hd, hn, st, ρ, hi, h⟩
theorem aw_cons {o : Oper} {l : List Oper} (h : Stp P mu ops o st (aw P mu N ops Q l)) : aw P mu N ops Q (o :: l) st := fun hb B w ρ a hd hn hi => by
  obtain ⟨st', hs, h⟩ := h
  refine wpList_step fun K hK => ?_
  refine aStep_sound hi.sim (fun t ht => by rw [hn]; exact hb o (by simp) t ht) hs (fun w' ρ' u X h1 h2 h3 => ?_)
  exact hK _ _ (h (fun o ho => hb o (by simp [ho])) B w' ρ' _ (by rw [put_defers]; exact hd) (by rw [put_size]; exact hn) (hi.step h1 h2 h3))
theorem aw_weak {l : List Oper} (F : St) (hw : Weak st F) (h : aw P mu N ops Q l F) : aw P mu N ops Q l st := fun hb B w ρ a hd hn hi => by
  obtain ⟨ρ', hi'⟩ := hi.weak hw
  exact h hb B w ρ' a hd hn hi'
theorem awp_reg {id : Nat} (h : aw P mu N ops Q ops.toList st) : awp P mu N (.region id ops false) Q st := fun hm hok B w ρ a hd hn hi => by
  simp only [okC, Bool.and_eq_true, List.all_eq_true] at hok
  have hb : ∀ o ∈ ops.toList, ∀ t, o.dst = some t → t < N := fun o ho t ht => by
    have := hok.1 o ho
    rw [ht] at this
    simpa using this
  exact wp_region_list (h hb B w ρ a hd hn hi)
theorem awp_draw {id : Nat} (h : aOps P mu ops ops.toList (Q .normal) st) (hl : (ne4 ops.toList || lexOK mu ops) = true) : awp P mu N (.region id ops true) Q st := awp_region h fun _ => hl
/-! ### Codes -/
theorem thenA_n {K : St → Prop} (h : K st) : thenA K Q .normal st := h
theorem blockA_n {id : Nat} (h : Q .normal st) : blockA id Q .normal st := h
theorem blockA_hit {id id' : Nat} (e : Nat.beq id' id = true) (h : Q .normal st) : blockA id Q (.exit id') st := by
  have := Nat.eq_of_beq_eq_true e
  simp only [blockA, if_pos this]; exact h
theorem blockA_miss {id id' : Nat} (e : Nat.beq id' id = false) (h : Q (.exit id') st) : blockA id Q (.exit id') st := by
  have : ¬ id' = id := fun q => by subst q; simp [Nat.beq_refl] at e
  simp only [blockA, if_neg this]; exact h
theorem awp_ifT {c : Operand} {x y : Code} {S' : Store} (hc : opO fl c = some (bvl true)) (h : awp P mu N x Q ⟨lk' fl, S'⟩) : awp P mu N (.cond c x y) Q ⟨lk' fl, S'⟩ :=
  awp_cond (t := true) (opO_look hc) (fun _ => h) (fun e => by cases e)
theorem awp_ifF {c : Operand} {x y : Code} {S' : Store} (hc : opO fl c = some (bvl false)) (h : awp P mu N y Q ⟨lk' fl, S'⟩) : awp P mu N (.cond c x y) Q ⟨lk' fl, S'⟩ :=
  awp_cond (t := false) (opO_look hc) (fun e => by cases e) (fun _ => h)
theorem awp_if {c : Operand} {x y : Code} {S' : Store} {t : Bool} (hc : opO fl c = some (bvl t)) (h1 : t = true → awp P mu N x Q ⟨lk' fl, S'⟩) (h2 : t = false → awp P mu N y Q ⟨lk' fl, S'⟩) : awp P mu N (.cond c x y) Q ⟨lk' fl, S'⟩ :=
  awp_cond (opO_look hc) h1 h2

theorem awp_mid {c : Code} (Mid : St → Prop) (h : awp P mu N c (thenA Mid Q) st) (hk : ∀ st, Mid st → K st) : awp P mu N c (thenA K Q) st :=
  awp_mono h fun e st' hh => by cases e <;> first | exact hk _ hh | exact hh

theorem awp_midB {c : Code} {id : Nat} (Mid : St → Prop) (h : awp P mu N c (blockA id (thenA Mid Q)) st) (hk : ∀ st, Mid st → K st) : awp P mu N c (blockA id (thenA K Q)) st :=
  awp_mono h fun e st' hh => by
    cases e with
    | normal => exact hk _ hh
    | exit i =>
      simp only [blockA] at hh ⊢
      split
      · rename_i e; rw [if_pos e] at hh; exact hk _ hh
      · rename_i e; rw [if_neg e] at hh; exact hh
    | _ => exact hh

theorem awp_rep {c : Code} {ι : Type} (F : ι → St) (J : ι → Prop) (μ : ι → Nat) (i0 : ι) (hj : J i0) (h0 : Weak st (F i0))
    (hr : ∀ i, J i → awp P mu N c (thenA (fun st' => ∃ i', Weak st' (F i') ∧ J i' ∧ μ i' < μ i) Q) (F i)) : awp P mu N (.loop c) Q st := by
  refine awp_loop (ι := { i : ι // J i }) (fun i => F i.1) (fun i => μ i.1) ⟨i0, hj⟩ h0 (fun i => awp_mono (hr i.1 i.2) ?_)
  rintro e st' h
  cases e with
  | normal => obtain ⟨i', h1, h2, h3⟩ := h; exact ⟨⟨i', h2⟩, h1, h3⟩
  | _ => exact h
theorem awp_rep2 {c : Code} {α β : Type} (F : α → β → St) (J : α → β → Prop) (μ : α → β → Nat) (a0 : α) (b0 : β) (hj : J a0 b0) (h0 : Weak st (F a0 b0))
    (hr : ∀ a b, J a b → awp P mu N c (thenA (fun st' => ∃ a' b', Weak st' (F a' b') ∧ J a' b' ∧ μ a' b' < μ a b) Q) (F a b)) : awp P mu N (.loop c) Q st :=
  awp_rep (ι := α × β) (fun x => F x.1 x.2) (fun x => J x.1 x.2) (fun x => μ x.1 x.2) (a0, b0) hj h0 fun x hx =>
    awp_mid _ (hr x.1 x.2 hx) fun _ ⟨a', b', h⟩ => ⟨(a', b'), h⟩
theorem awp_rep3 {c : Code} {α β γ : Type} (F : α → β → γ → St) (J : α → β → γ → Prop) (μ : α → β → γ → Nat) (a0 : α) (b0 : β) (c0 : γ) (hj : J a0 b0 c0) (h0 : Weak st (F a0 b0 c0))
    (hr : ∀ a b d, J a b d → awp P mu N c (thenA (fun st' => ∃ a' b' d', Weak st' (F a' b' d') ∧ J a' b' d' ∧ μ a' b' d' < μ a b d) Q) (F a b d)) : awp P mu N (.loop c) Q st :=
  awp_rep (ι := α × β × γ) (fun x => F x.1 x.2.1 x.2.2) (fun x => J x.1 x.2.1 x.2.2) (fun x => μ x.1 x.2.1 x.2.2) (a0, b0, c0) hj h0 fun x hx =>
    awp_mid _ (hr x.1 x.2.1 x.2.2 hx) fun _ ⟨a', b', d', h⟩ => ⟨(a', b', d'), h⟩
theorem awp_rep4 {c : Code} {α β γ δ : Type} (F : α → β → γ → δ → St) (J : α → β → γ → δ → Prop) (μ : α → β → γ → δ → Nat) (a0 : α) (b0 : β) (c0 : γ) (d0 : δ) (hj : J a0 b0 c0 d0) (h0 : Weak st (F a0 b0 c0 d0))
    (hr : ∀ a b d e, J a b d e → awp P mu N c (thenA (fun st' => ∃ a' b' d' e', Weak st' (F a' b' d' e') ∧ J a' b' d' e' ∧ μ a' b' d' e' < μ a b d e) Q) (F a b d e)) : awp P mu N (.loop c) Q st :=
  awp_rep (ι := α × β × γ × δ) (fun x => F x.1 x.2.1 x.2.2.1 x.2.2.2) (fun x => J x.1 x.2.1 x.2.2.1 x.2.2.2) (fun x => μ x.1 x.2.1 x.2.2.1 x.2.2.2) (a0, b0, c0, d0) hj h0 fun x hx =>
    awp_mid _ (hr x.1 x.2.1 x.2.2.1 x.2.2.2 hx) fun _ ⟨a', b', d', e', h⟩ => ⟨(a', b', d', e'), h⟩
end
end Go.Abs

/-
  What is no longer written is told as it stands; names dropped.
-/
namespace Go.Abs
open Go

theorem cls_map {φ : Nm → Nm} {o : AObj} {x : Cell} (h : x ∈ (o.map φ).cls) : ∃ y ∈ o.cls, x = y.map φ := by
  cases o with
  | ints ty k L => exact absurd h List.not_mem_nil
  | fix x => exact absurd h List.not_mem_nil
  | row ty cs => obtain ⟨y, hy, rfl⟩ := List.mem_map.1 h; exact ⟨y, hy, rfl⟩
  | cells ty cs => obtain ⟨y, hy, rfl⟩ := List.mem_map.1 h; exact ⟨y, hy, rfl⟩
  | acc ty sz L =>
    obtain ⟨c, hc, hx⟩ := List.mem_flatten.1 h
    obtain ⟨c', hc', rfl⟩ := List.mem_map.1 hc
    obtain ⟨y, hy, rfl⟩ := List.mem_map.1 hx
    exact ⟨y, List.mem_flatten.2 ⟨c', hc', hy⟩, rfl⟩

inductive FrzC0 (A B : Store) : Cell → Cell → Prop
  | keep {x : Cell} (h : ∀ m, x.at m → B m ≠ none) : FrzC0 A B x x
  | nilI {k : IntKind} : FrzC0 A B (.sc (.slice none 0 0)) (.ints k [])
  | nilQ {sz : Nat} : FrzC0 A B (.sc (.slice none 0 0)) (.seq sz [])
  | junk {x : Cell} : FrzC0 A B x .junk
  | le {x y : Cell} (h : CLe x y) (h0 : ∀ m, ¬ y.at m) : FrzC0 A B x y
  | win {m : Nm} {off len cm : Nat} {ty : TypeId} {k : IntKind} {L L' : List Int} (hm : A m = some (.ints ty k L)) (hb : B m = none) (hl : off + len ≤ L.length) (e : L' = (L.drop off).take len) : FrzC0 A B (.win m off len cm) (.ints k L')
  | winc {m : Nm} {off len cm : Nat} {ty : TypeId} {k : IntKind} {L L' : List Int} (hm : A m = some (.ints ty k L)) (hb : B m = none) (hl : off + cm ≤ L.length) (e : L' = (L.drop off).take cm) : FrzC0 A B (.win m off len cm) (.intc k L' len)
  | ptr {m : Nm} {off : Nat} {ty : TypeId} {cs : List Cell} {ls : List Leaf} (f : Nat → Cell) (hm : A m = some (.cells ty cs) ∨ A m = some (.row ty cs)) (hb : B m = none) (h1 : ∀ (j : Nat) l, ls[j]? = some l → cs[off + j]? = some (f j)) (h2 : ∀ (j : Nat) l, ls[j]? = some l → FrzC0 A B (f j) l.cell) : FrzC0 A B (.ptr m off) (.pim ls)
  | row {m : Nm} {off len cm sz : Nat} {ty : TypeId} {cs : List Cell} {L : List (List Leaf)} (f : Nat → Nat → Cell) (hm : A m = some (.cells ty cs) ∨ A m = some (.row ty cs)) (hb : B m = none) (hn : L.length = len) (hz : ∀ c ∈ L, c.length = sz)
      (h1 : ∀ (i : Nat) c (j : Nat) l, L[i]? = some c → c[j]? = some l → cs[off + (i * sz + j)]? = some (f i j)) (h2 : ∀ (i : Nat) c (j : Nat) l, L[i]? = some c → c[j]? = some l → FrzC0 A B (f i j) l.cell) : FrzC0 A B (.win m off len cm) (.seq sz L)
  | rowc {m : Nm} {off len cm sz : Nat} {ty : TypeId} {cs : List Cell} {L : List (List Leaf)} (f : Nat → Nat → Cell) (hm : A m = some (.cells ty cs) ∨ A m = some (.row ty cs)) (hb : B m = none) (hn : len ≤ L.length) (hc : L.length ≤ cm) (hz : ∀ c ∈ L, c.length = sz)
      (h1 : ∀ (i : Nat) c (j : Nat) l, L[i]? = some c → c[j]? = some l → cs[off + (i * sz + j)]? = some (f i j)) (h2 : ∀ (i : Nat) c (j : Nat) l, L[i]? = some c → c[j]? = some l → FrzC0 A B (f i j) l.cell) : FrzC0 A B (.win m off len cm) (.seqc sz L len)

inductive FrzC (A B : Store) : Cell → Cell → Prop
  | base {x y : Cell} (h : FrzC0 A B x y) : FrzC A B x y
theorem FrzC.c0 {A B : Store} {x y : Cell} (h : FrzC A B x y) : FrzC0 A B x y := by cases h with | base h => exact h

def FrzR (A B : Store) (R : List (List Cell)) (L : List (List Cell)) : Prop :=
  R.length = L.length ∧ ∀ (i : Nat) c c', R[i]? = some c → L[i]? = some c' → c.length = c'.length ∧ ∀ (j : Nat) x y, c[j]? = some x → c'[j]? = some y → FrzC0 A B x y

inductive FrzV (A B : Store) : AVal → AVal → Prop
  | c {x y : Cell} (h : FrzC A B x y) : FrzV A B (.c x) (.c y)
  | agg {xs ys : List Cell} (hl : xs.length = ys.length) (h : ∀ (i : Nat) (x y : Cell), xs[i]? = some x → ys[i]? = some y → FrzC A B x y) : FrzV A B (.agg xs) (.agg ys)
  | fn {f : FuncId} {xs ys : List Cell} (hl : xs.length = ys.length) (h : ∀ (i : Nat) (x y : Cell), xs[i]? = some x → ys[i]? = some y → FrzC A B x y) : FrzV A B (.fn f xs) (.fn f ys)
  | accK {m : Nm} {ty : TypeId} {sz n n' : Nat} {L L' : List (List Cell)} (h1 : A m = some (.acc ty sz L)) (h2 : B m = some (.acc ty sz L')) (hl : L'.length = L.length) (hn : n' = L.length) : FrzV A B (.accv m n) (.accv m n')
  | acc {m : Nm} {n sz : Nat} {ty : TypeId} {R : List (List Cell)} {L : List (List Leaf)} (hm : A m = some (.acc ty sz R)) (hb : B m = none) (h : FrzR A B R (L.map (·.map Leaf.cell))) : FrzV A B (.accv m n) (.c (.seq sz L))
  | accI {m : Nm} {n : Nat} {ty : TypeId} {k : IntKind} {L : List Int} (hm : A m = some (.accI ty k L)) (hb : B m = none) : FrzV A B (.accv m n) (.c (.ints k L))
  | accW {m : Nm} {n n' sz : Nat} {ty : TypeId} {R : List (List Cell)} {o : AObj} (hm : A m = some (.acc ty sz R)) (hne : R ≠ []) (hsz : 0 < sz) (hb : B m = some o) (ho : o.isAcc = false) (hn : n' = R.length) : FrzV A B (.accv m n) (.c (.win m 0 n' n'))
  | nilA {m : Nm} {ty : TypeId} {sz : Nat} (hb : B m = some (.acc ty sz [])) : FrzV A B (.c (.sc (.slice none 0 0))) (.accv m 0)

inductive FrzO (A B : Store) : AObj → AObj → Prop
  | ints {ty : TypeId} {k : IntKind} {L : List Int} : FrzO A B (.ints ty k L) (.ints ty k L)
  | acc {ty : TypeId} {sz : Nat} {L L' : List (List Cell)} (h : FrzR A B L L') : FrzO A B (.acc ty sz L) (.acc ty sz L')
  | fix {x : Obj} : FrzO A B (.fix x) (.fix x)
  | row {ty : TypeId} {xs ys : List Cell} (h : ∀ (i : Nat) (y : Cell), ys[i]? = some y → ∃ x, xs[i]? = some x ∧ FrzC0 A B x y) : FrzO A B (.row ty xs) (.row ty ys)
  | cellsR {ty : TypeId} {xs ys : List Cell} (h : ∀ (i : Nat) (y : Cell), ys[i]? = some y → ∃ x, xs[i]? = some x ∧ FrzC0 A B x y) : FrzO A B (.cells ty xs) (.row ty ys)
  | accC {ty : TypeId} {sz : Nat} {R R' : List (List Cell)} (hne : R ≠ []) (h : FrzR A B R R') : FrzO A B (.acc ty sz R) (.row ty R'.flatten)
  | cells {ty : TypeId} {xs ys : List Cell} (hl : xs.length = ys.length) (h : ∀ (i : Nat) (y : Cell), ys[i]? = some y → ∃ x, xs[i]? = some x ∧ FrzC A B x y) : FrzO A B (.cells ty xs) (.cells ty ys)
  | accN {ty : TypeId} {k : IntKind} {L : List Int} (hne : L ≠ []) : FrzO A B (.accI ty k L) (.ints ty k L)
  | cellsN {ty : TypeId} {k : IntKind} {L : List Int} : FrzO A B (.cells ty (intsOf k L)) (.ints ty k L)

theorem AObj.acc_real {ty : TypeId} {sz : Nat} {R : List (List Cell)} (h : R ≠ []) : (AObj.acc ty sz R).real = true := by cases R <;> first | exact absurd rfl h | rfl
theorem FrzO.real {A B : Store} {o o' : AObj} (h : FrzO A B o o') : o.real = o'.real := by
  cases h with
  | acc h =>
    rename_i ty sz L L'
    have := h.1
    cases L <;> cases L' <;> first | rfl | (simp at this)
  | accC hne h => rw [AObj.acc_real hne]; rfl
  | accN hne => rw [AObj.acc_real (by intro e; exact hne (by simpa using e))]; rfl
  | _ => rfl

theorem FrzO.keep {A B : Store} {o : AObj} (h : ∀ x ∈ o.cls, ∀ m, x.at m → B m ≠ none) : FrzO A B o o := by
  cases o with
  | ints ty k L => exact .ints
  | acc ty sz L =>
    refine .acc ⟨rfl, fun i c c' hi hi' => ?_⟩
    rw [hi] at hi'; obtain rfl := Option.some.inj hi'
    refine ⟨rfl, fun j x y hj hj' => ?_⟩
    rw [hj] at hj'; obtain rfl := Option.some.inj hj'
    exact .keep fun m hm' => h x (List.mem_flatten.2 ⟨c, List.mem_of_getElem? hi, List.mem_of_getElem? hj⟩) m hm'
  | fix x => exact .fix
  | row ty cs => exact .row fun i y hy => ⟨y, hy, .keep fun m hm' => h y (List.mem_of_getElem? hy) m hm'⟩
  | cells ty cs => exact .cells rfl fun i y hy => ⟨y, hy, .base (.keep fun m hm' => h y (List.mem_of_getElem? hy) m hm')⟩

section
variable {w : World} {ρ : Nm → Nat} {A B : Store} {st F : St}

def Sub (A B : Store) : Prop := ∀ m o', B m = some o' → (∃ o, A m = some o ∧ FrzO A B o o') ∨ ((∀ o, A m = some o → o.isAcc = true) ∧ ∃ ty sz, o' = .acc ty sz [])

theorem IntsS.mono {G H : Nat → Prop} (h : ∀ b, G b → H b) {k : IntKind} {L : List Int} {n : Nat} {v : Value} (hv : IntsS w G k L n v) : IntsS w H k L n v := hv.imp fun b hb => ⟨h b hb, fun _ => rfl⟩
theorem LeafS.mono {G H : Nat → Prop} (h : ∀ b, G b → H b) {x : Leaf} {v : Value} (hv : LeafS w G x v) : LeafS w H x v := hv.imp fun b hb => ⟨h b hb, fun _ => rfl⟩

theorem Sub.fr (h : Sub A B) {b : Nat} (hb : Fr w ρ A b) : Fr w ρ B b := ⟨hb.1, fun m o hm hr => by
  rcases h m o hm with ⟨o', h1, h2⟩ | ⟨hna, ty, k, rfl⟩
  · exact hb.2 m o' h1 (by rw [h2.real]; exact hr)
  · cases hr⟩

theorem Sub.gone (h : Sub A B) (he : EnvS w ρ A) {m : Nm} {o : AObj} (hm : A m = some o) (hr : o.real = true) (hb : B m = none) : Fr w ρ B (ρ m) :=
  ⟨he.lt hm hr, fun m' o' hm' hr' e => by
    rcases h m' o' hm' with ⟨o1, h1, h2⟩ | ⟨hna, ty, k, rfl⟩
    · have := he.inj m' m o1 o h1 hm (by rw [h2.real]; exact hr') hr e
      subst this
      rw [hb] at hm'; cases hm'
    · cases hr'⟩

theorem Sub.kp (hs : Sub A B) {m : Nm} {o : AObj} (ho : A m = some o) (ha : o.isAcc = false) (hb : B m ≠ none) : ∃ o', B m = some o' ∧ o'.isAcc = false := by
  cases e : B m with
  | none => exact absurd e hb
  | some o' =>
    rcases hs m o' e with ⟨o1, h1, h3⟩ | ⟨hna, ty, k, rfl⟩
    · rw [ho] at h1; obtain rfl := Option.some.inj h1
      exact ⟨o', rfl, by cases h3 <;> first | rfl | exact ha⟩
    · rw [hna o ho] at ha; cases ha

theorem rc_obj (he : EnvS w ρ A) {m : Nm} {ty : TypeId} {cs : List Cell} (hm : A m = some (.cells ty cs) ∨ A m = some (.row ty cs)) :
    ∃ vs, w.heap[ρ m]? = some (.cells vs ty (0, 0)) ∧ ∀ (i : Nat) (x : Cell), cs[i]? = some x → ∃ u, vs[i]? = some u ∧ u.oneCell' = true ∧ CellS w ρ A x u := by
  rcases hm with hm | hm
  · obtain ⟨vs, q1, -, q2⟩ := he.obj m _ hm; exact ⟨vs, q1, q2⟩
  · exact he.obj m _ hm

theorem leaf_of_cell {l : Leaf} {u : Value} (h : CellS w ρ B l.cell u) (ho : u.oneCell' = true) : LeafS w (Fr w ρ B) l u := by
  cases l with
  | sc v => have e : u = v := h; subst e; exact .sc ho
  | ints k L => exact .ints h
  | intc k L n => exact .intc h
  | pim cs => exact leafS_pim h
  | seq sz L => exact leafS_seq h
  | seqc sz L n => exact leafS_seqc h
  | fx x => exact .fx h

structure Seen (w : World) (ρ : Nm → Nat) (A B : Store) : Prop where
  fr : ∀ {b : Nat}, Fr w ρ A b → Fr w ρ B b
  gone : ∀ {m : Nm} {o : AObj}, A m = some o → o.real = true → B m = none → Fr w ρ B (ρ m)
  kp : ∀ {m : Nm} {o : AObj}, A m = some o → o.isAcc = false → B m ≠ none → ∃ o', B m = some o' ∧ o'.isAcc = false
theorem Sub.seen (h : Sub A B) (he : EnvS w ρ A) : Seen w ρ A B := ⟨h.fr, fun a b c => h.gone he a b c, fun a b c => h.kp a b c⟩

theorem cell_mono (hs : Seen w ρ A B) {y : Cell} {u : Value} (h0 : ∀ m, ¬ y.at m) (hx : CellS w ρ A y u) : CellS w ρ B y u := by
  cases y with
  | sc v => exact hx
  | ints k L => exact IntsS.mono (fun b => hs.fr) hx
  | intc k L n => exact IntsS.mono (fun b => hs.fr) hx
  | seq sz L => exact SeqS.imp (fun b hb => ⟨hs.fr hb, fun _ => rfl⟩) hx
  | seqc sz L n => exact SeqS.imp (fun b hb => ⟨hs.fr hb, fun _ => rfl⟩) hx
  | win m off len cm => exact absurd rfl (h0 m)
  | ptr m off => exact absurd rfl (h0 m)
  | pim cs => exact PimS.imp (fun b hb => ⟨hs.fr hb, fun _ => rfl⟩) hx
  | fx x => exact hx
  | junk => trivial

theorem FrzC0.heldS (hs : Seen w ρ A B) (he : EnvS w ρ A) {x y : Cell} (h : FrzC0 A B x y) : ∀ {u : Value}, CellS w ρ A x u → CellS w ρ B y u := by
  induction h with
  | keep h =>
    rename_i x
    intro u hx
    cases x with
    | win m off len cm =>
      obtain ⟨⟨o, ho, ha⟩, h2⟩ := hx
      exact ⟨hs.kp ho ha (h m rfl), h2⟩
    | ptr m off =>
      obtain ⟨⟨o, ho, ha⟩, h2⟩ := hx
      exact ⟨hs.kp ho ha (h m rfl), h2⟩
    | sc v => exact cell_mono hs (fun _ h => h.elim) hx
    | ints k L => exact cell_mono hs (fun _ h => h.elim) hx
    | intc k L n => exact cell_mono hs (fun _ h => h.elim) hx
    | seq sz L => exact cell_mono hs (fun _ h => h.elim) hx
    | seqc sz L n => exact cell_mono hs (fun _ h => h.elim) hx
    | pim cs => exact cell_mono hs (fun _ h => h.elim) hx
    | fx x => exact hx
    | junk => trivial
  | nilI => intro u hx; exact ⟨none, 0, hx, Nat.le_refl _, Nat.le_refl _, fun h => by simp at h⟩
  | nilQ => intro u hx; exact ⟨none, 0, hx, Nat.le_refl _, Nat.le_refl _, fun c hc => by simp at hc, fun h => by simp at h⟩
  | junk => intro u hx; trivial
  | le h h0 => intro u hx; exact cell_mono hs h0 (h.held hx)
  | win hm hb hl e =>
    intro u hx
    rename_i m off len cm ty k L L'
    obtain ⟨-, C, cap, rfl, h1, h2, h3⟩ := hx
    have hlen : L'.length = len := by rw [e]; simp; omega
    refine ⟨C, cap, by rw [hlen], Nat.le_refl _, by omega, fun hp => ?_⟩
    obtain ⟨e1, -⟩ := h3 (by omega)
    refine ⟨ρ m, off, e1, hs.gone hm rfl hb, fun i x hi => ?_⟩
    obtain ⟨vs, q1, q2⟩ := he.obj m _ hm
    have hi' : L[off + i]? = some x := by
      rw [e] at hi
      rcases Nat.lt_or_ge i len with q | q
      · rw [List.getElem?_take_of_lt q, List.getElem?_drop] at hi; exact hi
      · rw [List.getElem?_eq_none (by simp; omega)] at hi; cases hi
    rw [cell_of_heap q1]
    exact q2 _ _ hi'
  | winc hm hb hl e =>
    intro u hx
    rename_i m off len cm ty k L L'
    obtain ⟨-, C, cap, rfl, h1, h2, h3⟩ := hx
    have hlen : L'.length = cm := by rw [e]; simp; omega
    refine ⟨C, cap, rfl, by omega, by omega, fun hp => ?_⟩
    obtain ⟨e1, -⟩ := h3 (by omega)
    refine ⟨ρ m, off, e1, hs.gone hm rfl hb, fun i x hi => ?_⟩
    obtain ⟨vs, q1, q2⟩ := he.obj m _ hm
    have hi' : L[off + i]? = some x := by
      rw [e] at hi
      rcases Nat.lt_or_ge i cm with q | q
      · rw [List.getElem?_take_of_lt q, List.getElem?_drop] at hi; exact hi
      · rw [List.getElem?_eq_none (by simp; omega)] at hi; cases hi
    rw [cell_of_heap q1]
    exact q2 _ _ hi'
  | ptr f hm hb h1 h2 ih =>
    intro u hx
    rename_i m off ty cs ls
    obtain ⟨-, rfl⟩ := hx
    refine ⟨ρ m, off, rfl, (hm.elim (fun h => hs.gone h rfl hb) (fun h => hs.gone h rfl hb)), fun j l hj => ?_⟩
    obtain ⟨vs, q1, q2⟩ := rc_obj he hm
    obtain ⟨u, q3, q4, q5⟩ := q2 _ _ (h1 j l hj)
    exact ⟨u, by rw [cell_of_heap q1]; exact q3, leaf_of_cell (ih j l hj q5) q4⟩
  | row f hm hb hn hz h1 h2 ih =>
    intro u hx
    rename_i m off len cm sz ty cs L
    obtain ⟨-, C, cap, rfl, g1, g2, g3⟩ := hx
    refine ⟨C, cap, by rw [hn], Nat.le_refl _, by omega, hz, fun hp => ?_⟩
    obtain ⟨e1, -⟩ := g3 (by omega)
    refine ⟨ρ m, off, e1, (hm.elim (fun h => hs.gone h rfl hb) (fun h => hs.gone h rfl hb)), fun i c j l hi hj => ?_⟩
    obtain ⟨vs, q1, q2⟩ := rc_obj he hm
    obtain ⟨u, q3, q4, q5⟩ := q2 _ _ (h1 i c j l hi hj)
    exact ⟨u, by rw [cell_of_heap q1]; exact q3, leaf_of_cell (ih i c j l hi hj q5) q4⟩
  | rowc f hm hb hn hc hz h1 h2 ih =>
    intro u hx
    rename_i m off len cm sz ty cs L
    obtain ⟨-, C, cap, rfl, g1, g2, g3⟩ := hx
    refine ⟨C, cap, rfl, hn, by omega, hz, fun hp => ?_⟩
    obtain ⟨e1, -⟩ := g3 (by omega)
    refine ⟨ρ m, off, e1, (hm.elim (fun h => hs.gone h rfl hb) (fun h => hs.gone h rfl hb)), fun i c j l hi hj => ?_⟩
    obtain ⟨vs, q1, q2⟩ := rc_obj he hm
    obtain ⟨u, q3, q4, q5⟩ := q2 _ _ (h1 i c j l hi hj)
    exact ⟨u, by rw [cell_of_heap q1]; exact q3, leaf_of_cell (ih i c j l hi hj q5) q4⟩

theorem FrzC0.held (hs : Sub A B) (he : EnvS w ρ A) {x y : Cell} (h : FrzC0 A B x y) {u : Value} (hx : CellS w ρ A x u) : CellS w ρ B y u := h.heldS (hs.seen he) he hx
theorem FrzC.held (hs : Sub A B) (he : EnvS w ρ A) {x y : Cell} {u : Value} (h : FrzC A B x y) (hx : CellS w ρ A x u) : CellS w ρ B y u := h.c0.held hs he hx

theorem frz_cells (hs : Sub A B) (he : EnvS w ρ A) {xs ys : List Cell} {vs : List Value} (hl : xs.length = ys.length) (h : ∀ (i : Nat) (x y : Cell), xs[i]? = some x → ys[i]? = some y → FrzC A B x y) (hx : CellsS w ρ A xs vs) : CellsS w ρ B ys vs := by
  obtain ⟨h1, h2⟩ := hx
  refine ⟨by omega, fun i y hy => ?_⟩
  have hlt : i < xs.length := by
    rcases Nat.lt_or_ge i ys.length with q | q
    · omega
    · rw [List.getElem?_eq_none q] at hy; cases hy
  obtain ⟨u, p1, p2, p3⟩ := h2 i _ (List.getElem?_eq_getElem hlt)
  exact ⟨u, p1, p2, (h i _ y (List.getElem?_eq_getElem hlt) hy).held hs he p3⟩

theorem FrzR.held (hs : Sub A B) (he : EnvS w ρ A) {b sz : Nat} {ty : TypeId} {R L : List (List Cell)} (h : FrzR A B R L) (hx : RowsS w ρ A b ty sz R) : RowsS w ρ B b ty sz L := by
  obtain ⟨vs, q1, q2, q3⟩ := hx
  have hR : ∀ (i : Nat) (c' : List Cell), L[i]? = some c' → ∃ c, R[i]? = some c := by
    intro i c' hi
    have hlt := (List.getElem?_eq_some_iff.1 hi).1
    exact ⟨_, List.getElem?_eq_getElem (by rw [h.1]; exact hlt)⟩
  refine ⟨vs, q1, fun c' hc => ?_, fun i c' j y hi hj => ?_⟩
  · obtain ⟨i, hi, rfl⟩ := List.getElem_of_mem hc
    obtain ⟨c, hR1⟩ := hR i _ (List.getElem?_eq_getElem hi)
    rw [← (h.2 i c _ hR1 (List.getElem?_eq_getElem hi)).1]
    exact q2 c (List.mem_of_getElem? hR1)
  · obtain ⟨c, hR1⟩ := hR i _ hi
    obtain ⟨g1, g2⟩ := h.2 i c _ hR1 hi
    have hjl := (List.getElem?_eq_some_iff.1 hj).1
    obtain ⟨u, p1, p2, p3⟩ := q3 i c j _ hR1 (List.getElem?_eq_getElem (by omega))
    exact ⟨u, p1, p2, (g2 j _ y (List.getElem?_eq_getElem (by omega)) hj).held hs he p3⟩

theorem rows_ints {b : Nat} {ty : TypeId} {k : IntKind} {L : List Int} {S : Store} (h : RowsS w ρ S b ty 1 (ir k L)) : RowS w b ty k L := by
  obtain ⟨vs, q1, -, q3⟩ := h
  refine ⟨vs, q1, fun i x hi => ?_⟩
  obtain ⟨u, p1, -, p3⟩ := q3 i [.sc (.int k x)] 0 _ (by simp [hi]) rfl
  have e : u = .int k x := p3
  rw [← e]; simpa using p1

theorem FrzV.held (hs : Sub A B) (he : EnvS w ρ A) {x y : AVal} {u : Value} (h : FrzV A B x y) (hx : VS w ρ A x u) : VS w ρ B y u := by
  cases h with
  | c h => exact h.held hs he hx
  | agg hl h => obtain ⟨vs, rfl, hx⟩ := hx; exact ⟨vs, rfl, frz_cells hs he hl h hx⟩
  | fn hl h => obtain ⟨vs, rfl, hx⟩ := hx; exact ⟨vs, rfl, frz_cells hs he hl h hx⟩
  | accK h1 h2 hl hn =>
    rename_i m ty sz n n' L L'
    obtain ⟨ty', k, L2, ho, hn2, h⟩ := hx
    rw [h1] at ho
    simp only [Option.some.injEq, AObj.acc.injEq] at ho
    obtain ⟨rfl, rfl, rfl⟩ := ho
    refine ⟨ty, sz, L', h2, by omega, ?_⟩
    rcases h with ⟨rfl, hA⟩ | ⟨hne, cap, e, g⟩
    · exact .inl ⟨List.eq_nil_of_length_eq_zero (by simpa using hl), hA⟩
    · exact .inr ⟨fun e2 => by subst e2; exact hne (List.eq_nil_of_length_eq_zero (by simpa using hl.symm)), cap, by rw [hl]; exact e, by rw [hl]; exact g⟩
  | acc hm hb h =>
    rename_i m n sz ty R L
    obtain ⟨ty', k', L2, ho, hn2, hh⟩ := hx
    rw [hm] at ho
    simp only [Option.some.injEq, AObj.acc.injEq] at ho
    obtain ⟨rfl, rfl, rfl⟩ := ho
    have hl : R.length = L.length := by simpa using h.1
    rcases hh with ⟨rfl, A', rfl⟩ | ⟨hne, cap, rfl, h1, h2, h3⟩
    · have : L = [] := List.eq_nil_of_length_eq_zero (by simpa using hl.symm)
      subst this
      exact ⟨A', 0, rfl, Nat.le_refl _, Nat.le_refl _, fun c hc => by simp at hc, fun h => by simp at h⟩
    · rcases he.obj m _ hm with q | q
      · exact absurd q hne
      · obtain ⟨vs, q1, q2, q3⟩ := FrzR.held hs he h q
        refine ⟨_, cap, by rw [hl], Nat.le_refl _, by omega, fun c hc => by simpa using q2 _ (List.mem_map_of_mem hc), fun hp => ⟨ρ m, 0, rfl, hs.gone he hm (AObj.acc_real hne) hb, fun i c j x hi hj => ?_⟩⟩
        obtain ⟨u, p1, p2, p3⟩ := q3 i (c.map Leaf.cell) j x.cell (by simp [hi]) (by simp [hj])
        exact ⟨u, by rw [cell_of_heap q1, Nat.zero_add]; exact p1, leaf_of_cell p3 p2⟩
  | accI hm hb =>
    rename_i m n ty k L
    obtain ⟨ty', k', L2, ho, hn2, hh⟩ := hx
    rw [hm] at ho
    simp only [AObj.accI, Option.some.injEq, AObj.acc.injEq] at ho
    obtain ⟨rfl, rfl, rfl⟩ := ho
    rcases hh with ⟨e, A', rfl⟩ | ⟨hne, cap, rfl, h1, h2, h3⟩
    · have : L = [] := by simpa using e
      subst this
      exact ⟨A', 0, rfl, Nat.le_refl _, Nat.le_refl _, fun h => by simp at h⟩
    · rcases he.obj m _ hm with q | q
      · exact absurd q hne
      · obtain ⟨vs, q1, q2⟩ := rows_ints q
        have e : (ir k L).length = L.length := List.length_map ..
        refine ⟨_, cap, by rw [e], Nat.le_refl _, by rw [← e]; exact h1, fun hp => ⟨ρ m, 0, rfl, hs.gone he hm (AObj.acc_real hne) hb, fun i x hi => ?_⟩⟩
        rw [cell_of_heap q1, Nat.zero_add]; exact q2 _ _ hi
  | accW hm hne hsz hb ho hn =>
    rename_i m n n' sz ty R o
    obtain ⟨ty', k', L2, ho2, hn2, hh⟩ := hx
    rw [hm] at ho2
    simp only [Option.some.injEq, AObj.acc.injEq] at ho2
    obtain ⟨rfl, rfl, rfl⟩ := ho2
    rcases hh with ⟨e, -⟩ | ⟨-, cap, rfl, h1, h2, h3⟩
    · exact absurd e hne
    · refine ⟨⟨o, hb, ho⟩, _, cap, by rw [hn], Nat.le_refl _, by omega, fun hc => ⟨rfl, ty, _, h3, ?_⟩⟩
      rw [Nat.zero_add]; exact Nat.le_mul_of_pos_right _ hsz
  | nilA hb => exact ⟨_, _, _, hb, rfl, .inl ⟨rfl, none, hx⟩⟩

theorem Weak.frz (hO : Sub st.sg F.sg) (hkeep : ∀ m, F.sg (.out m) = st.sg (.out m)) (hfr : ∀ t, F.fr t = .c .junk ∨ FrzV st.sg F.sg (st.fr t) (F.fr t)) : Weak st F := fun w ρ tm hs => by
  refine ⟨ρ, ⟨fun m m' o o' h1 h2 r1 r2 e => ?_, fun m o hm => ?_, fun t => ?_, fun g cs hg => (hs.gl g cs hg).imp fun b hb => ⟨hO.fr hb, fun _ => rfl⟩⟩, fun m o hm hr => ?_, fun m hm => ?_⟩
  · rcases hO m o h1 with ⟨q, a1, a2⟩ | ⟨-, ty, k, rfl⟩
    · rcases hO m' o' h2 with ⟨q', b1, b2⟩ | ⟨-, ty, k, rfl⟩
      · exact hs.inj m m' q q' a1 b1 (by rw [a2.real]; exact r1) (by rw [b2.real]; exact r2) e
      · cases r2
    · cases r1
  · rcases hO m o hm with ⟨q, a1, a2⟩ | ⟨-, ty, k, rfl⟩
    · have ho := hs.obj m q a1
      cases a2 with
      | ints => exact ho
      | acc h =>
        rename_i ty sz L L'
        rcases ho with rfl | ho
        · exact .inl (List.eq_nil_of_length_eq_zero (by simpa using h.1.symm))
        · exact .inr (h.held hO hs.env ho)
      | accN hne =>
        rcases ho with e | ho
        · exact absurd (by simpa using e) hne
        · exact rows_ints ho
      | cellsN => exact rowS_of_cells ho
      | fix => exact ho
      | row h =>
        obtain ⟨vs, q1, q2⟩ := ho
        refine ⟨vs, q1, fun i y hy => ?_⟩
        obtain ⟨x, h1, h2⟩ := h i y hy
        obtain ⟨u, p1, p2, p3⟩ := q2 i x h1
        exact ⟨u, p1, p2, h2.held hO hs.env p3⟩
      | cellsR h =>
        obtain ⟨vs, q1, q0, q2⟩ := ho
        refine ⟨vs, q1, fun i y hy => ?_⟩
        obtain ⟨x, h1, h2⟩ := h i y hy
        obtain ⟨u, p1, p2, p3⟩ := q2 i x h1
        exact ⟨u, p1, p2, h2.held hO hs.env p3⟩
      | accC hne h =>
        rename_i ty sz R R'
        rcases ho with rfl | ho
        · exact absurd rfl hne
        · obtain ⟨vs, q1, q2, q3⟩ := h.held hO hs.env ho
          refine ⟨vs, q1, fun j x hj => ?_⟩
          have hlt := (List.getElem?_eq_some_iff.1 hj).1
          rw [flat_len q2] at hlt
          have hk : 0 < sz := Nat.pos_of_ne_zero fun e => by subst e; omega
          have hi : j / sz < R'.length := (Nat.div_lt_iff_lt_mul hk).2 hlt
          have hm' : j % sz < (R'[j / sz]).length := by rw [q2 _ (List.getElem_mem hi)]; exact Nat.mod_lt _ hk
          have e1 : j / sz * sz + j % sz = j := by rw [Nat.mul_comm]; exact Nat.div_add_mod j sz
          have e2 := flat_get q2 (List.getElem?_eq_getElem hi) (List.getElem?_eq_getElem hm')
          rw [e1, hj] at e2
          obtain ⟨u, p1, p2, p3⟩ := q3 (j / sz) _ (j % sz) _ (List.getElem?_eq_getElem hi) (List.getElem?_eq_getElem hm')
          rw [e1] at p1
          obtain rfl := Option.some.inj e2
          exact ⟨u, p1, p2, p3⟩
      | cells hl h =>
        obtain ⟨vs, q1, q0, q2⟩ := ho
        refine ⟨vs, q1, by omega, fun i y hy => ?_⟩
        obtain ⟨x, h1, h2⟩ := h i y hy
        obtain ⟨u, p1, p2, p3⟩ := q2 i x h1
        exact ⟨u, p1, p2, h2.held hO hs.env p3⟩
    · exact .inl rfl
  · rcases hfr t with e | h
    · rw [e]; trivial
    · exact h.held hO hs.env (hs.fr t)
  · rcases hO m o hm with ⟨q, a1, a2⟩ | ⟨-, ty, k, rfl⟩
    · exact ⟨m, q, a1, by rw [a2.real]; exact hr, rfl, fun _ => rfl⟩
    · cases hr
  · cases m <;> simp [Nm.isOut] at hm
    exact ⟨hkeep _, rfl⟩

/-! ### Told by lists -/
def FrzF (A B : Store) (fl : FL) : FL → Prop
  | [] => True
  | (t, v) :: r => (∃ u, lkO fl t = some u ∧ FrzV A B u v) ∧ FrzF A B fl r
theorem FrzF.at {fl : FL} : ∀ {r : FL}, FrzF A B fl r → ∀ t v, lkO r t = some v → ∃ u, lkO fl t = some u ∧ FrzV A B u v
  | (s, v) :: r, ⟨h1, h2⟩, t, v', h => by
    simp only [lkO] at h
    split at h
    · rename_i e
      have := Nat.eq_of_beq_eq_true e
      subst this
      obtain rfl := Option.some.inj h
      exact h1
    · exact FrzF.at h2 t v' h

def outsL : SL → SL
  | [] => []
  | (.out m, o) :: r => (.out m, o) :: outsL r
  | _ :: r => outsL r
theorem outsL_lk (m : Nm) : ∀ sl : SL, lkS (outsL sl) (.out m) = lkS sl (.out m)
  | [] => rfl
  | (.out n, o) :: r => by simp only [outsL, lkS]; rw [outsL_lk m r]
  | (.loc n, o) :: r => by simp only [outsL, lkS]; rw [outsL_lk m r]; simp
  | (.new, o) :: r => by simp only [outsL, lkS]; rw [outsL_lk m r]; simp
  | (.fam n i, o) :: r => by simp only [outsL, lkS]; rw [outsL_lk m r]; simp

def FrzS (A B : Store) : SL → Prop
  | [] => True
  | (m, o') :: r => ((∃ o, A m = some o ∧ FrzO A B o o') ∨ ((∀ o, A m = some o → o.isAcc = true) ∧ ∃ ty sz, o' = .acc ty sz [])) ∧ FrzS A B r
theorem FrzS.at : ∀ {r : SL}, FrzS A B r → ∀ m o', lkS r m = some o' → (∃ o, A m = some o ∧ FrzO A B o o') ∨ ((∀ o, A m = some o → o.isAcc = true) ∧ ∃ ty sz, o' = .acc ty sz [])
  | (n, o) :: r, ⟨h1, h2⟩, m, o', h => by
    simp only [lkS] at h
    split at h
    · rename_i e; subst e; obtain rfl := Option.some.inj h; exact h1
    · exact FrzS.at h2 m o' h

theorem frz {fl fl' : FL} {sl sl' : SL} {S : Store} (hS : ∀ n b, S n = some b → b.cl S) (ho : outsL sl' = outsL sl) (hs : FrzS (ov sl (pushS S)) (ov sl' (pushS S)) sl') (hf : FrzF (ov sl (pushS S)) (ov sl' (pushS S)) fl fl') :
    Weak ⟨lk' fl, ov sl (pushS S)⟩ ⟨lk' fl', ov sl' (pushS S)⟩ := by
  have hout : ∀ m, lkS sl' (.out m) = lkS sl (.out m) := fun m => by rw [← outsL_lk, ho, outsL_lk]
  refine Weak.frz (fun m o' hm => ?_) (fun m => ?_) (fun t => ?_)
  · simp only [ov] at hm
    split at hm
    · rename_i o1 h1
      obtain rfl := Option.some.inj hm
      exact hs.at m _ h1
    · rename_i h1
      obtain ⟨q, b, rfl, hb, rfl⟩ := pushS_some hm
      refine .inl ⟨b.map .out, by simp only [ov]; rw [← hout, h1]; exact hm, .keep fun x hx m hm' => ?_⟩
      have hcl := (AObj.cl_cls (S := S)).1 (hS q _ hb)
      obtain ⟨z, hz, rfl⟩ := cls_map hx
      obtain ⟨n, hn, rfl⟩ := Cell.map_at hm'
      have := hcl z hz n hn
      simp only [ov]
      split
      · simp
      · simp only [pushS]
        cases e : S n with
        | none => exact absurd e this
        | some z => simp
  · simp only [ov, hout]
  · show (lk' fl' t) = _ ∨ _
    simp only [lk']
    cases e : lkO fl' t with
    | none => exact .inl rfl
    | some v =>
      obtain ⟨u, h1, h2⟩ := hf.at t v e
      rw [h1]
      exact .inr h2

end
end Go.Abs

/-
  Contracts from bodies, told by lists.
-/
namespace Go.Abs
open Go

section
variable {P : Program} {mu : FuncId → Bool} {N : Nat} {Q : Exit → St → Prop} {st : St}

theorem awp_post {c : Code} (h : awp P mu N c (fun e st => ∃ F, Weak st F ∧ Q e F) st) : awp P mu N c Q st := fun hm hok B w ρ a hd hn hi =>
  Code.wp_mono (fun e a w ⟨h1, h2, st', ρ', h3, F, h4, h5⟩ => by
    obtain ⟨ρ2, h6⟩ := h3.weak h4
    exact ⟨h1, h2, F, ρ2, h6, h5⟩) (h hm hok B w ρ a hd hn hi)

theorem Cell.map_nm0 {φ : Nm → Nm} {x : Cell} (h : ∀ m, ¬ x.at m) : x.map φ = x := by
  cases x <;> first | rfl | exact absurd rfl (h _)
theorem Cell.maps_nm0 {φ : Nm → Nm} {cs : List Cell} (h : ∀ x ∈ cs, ∀ m, ¬ x.at m) : cs.map (·.map φ) = cs := by
  conv => rhs; rw [← List.map_id cs]
  exact List.map_congr_left fun x hx => Cell.map_nm0 (h x hx)
theorem AVal.map1_nm0 {φ : Nm → Nm} {x : AVal} (h : ∀ m, ¬ x.at1 m) : x.map1 φ = x := by
  cases x with
  | c x => simp only [AVal.map1, Cell.map_nm0 (x := x) h]
  | agg cs => simp only [AVal.map1, Cell.maps_nm0 (cs := cs) fun x hx m hm => h m ⟨x, hx, hm⟩]
  | fn f cs => simp only [AVal.map1, Cell.maps_nm0 (cs := cs) fun x hx m hm => h m ⟨x, hx, hm⟩]
  | accv m n => exact absurd rfl (h m)
  | accp m n => exact absurd rfl (h m)
  | tup xs => rfl
theorem AVal.map_nm0 {φ : Nm → Nm} {x : AVal} (h : nm0 x) : x.map φ = x := by
  cases x with
  | tup xs =>
    have : xs.map (·.map1 φ) = xs := by
      conv => rhs; rw [← List.map_id xs]
      exact List.map_congr_left fun x hx => AVal.map1_nm0 fun m hm => h m ⟨x, hx, hm⟩
    simp only [AVal.map, this]
  | c x => exact AVal.map1_nm0 (x := .c x) h
  | agg x => exact AVal.map1_nm0 (x := .agg x) h
  | fn f x => exact AVal.map1_nm0 (x := .fn f x) h
  | accv m n => exact absurd rfl (h m)
  | accp m n => exact absurd rfl (h m)

def entryL : Nat → List AVal → FL
  | _, [] => []
  | n, x :: xs => (n, x) :: entryL (n + 1) xs
theorem entryL_lk : ∀ (xs : List AVal) (n t : Nat), lkO (entryL n xs) t = if n ≤ t then xs[t - n]? else none
  | [], n, t => by simp [entryL, lkO]
  | x :: xs, n, t => by
    simp only [entryL, lkO]
    by_cases e : n = t
    · subst e; simp [Nat.beq_refl]
    · have : Nat.beq n t = false := by
        cases q : Nat.beq n t with
        | false => rfl
        | true => exact absurd (Nat.eq_of_beq_eq_true q) e
      rw [this]
      simp only
      rw [entryL_lk xs (n + 1) t]
      by_cases h : n ≤ t
      · rw [if_pos (by omega), if_pos h, show t - n = (t - (n + 1)) + 1 by omega, List.getElem?_cons_succ]
      · rw [if_neg (by omega), if_neg h]

def resL (T : TT) (fl : FL) : List ResultVar → Option (List AVal)
  | [] => some []
  | .tmp t :: r => match lkO fl t, resL T fl r with
    | some v, some vs => some (v :: vs)
    | _, _ => none
  | .cell a t :: r => match lkO fl a, agT T t, celT T t, resL T fl r with
    | some (.c (.pim cs)), some true, n + 1, some vs => match Nat.ble (n + 1) cs.length with
      | true => some (.agg ((cs.take (n + 1)).map Leaf.cell) :: vs)
      | false => none
    | _, _, _, _ => none
theorem resL_spec {T : TT} (hT : TOk P T) {S : Store} {fl : FL} : ∀ {rs : List ResultVar} {vs : List AVal}, resL T fl rs = some vs → ressE P ⟨lk' fl, S⟩ rs vs
  | [], vs, h => by simp only [resL, Option.some.injEq] at h; exact h.symm
  | .tmp t :: r, vs, h => by
    simp only [resL] at h
    split at h
    · rename_i v vs' h1 h2
      exact ⟨v, vs', (lkO_look h1).symm, resL_spec hT h2, (Option.some.inj h).symm⟩
    · cases h
  | .cell a t :: r, vs, h => by
    simp only [resL] at h
    split at h
    · rename_i cs n vs' h1 h2 h3 h4
      split at h
      · rename_i h5
        have h5 := Nat.le_of_ble_eq_true h5
        have h3 := hT.cel h3 (by simp)
        refine ⟨_, vs', ?_, resL_spec hT h4, (Option.some.inj h).symm⟩
        simp only [resE]
        rw [lkO_look h1]
        exact .inl ⟨hT.ag h2, by omega, by omega, by rw [h3]⟩
      · cases h
    · cases h

def flatL : List AVal → Bool
  | [] => true
  | [_] => true
  | xs => xs.all fun x => match x with | .tup _ => false | .accv _ _ => false | .accp _ _ => false | _ => true
theorem flatL_spec {xs : List AVal} (h : flatL xs = true) : ∀ x ∈ xs, xs.length = 1 ∨ (x.flat ∧ ∀ m o, x ≠ .accv m o ∧ x ≠ .accp m o) := by
  intro x hx
  match xs, h with
  | [_], _ => exact .inl rfl
  | a :: b :: r, h =>
    refine .inr ?_
    have := List.all_eq_true.1 h x hx
    cases x <;> first | (cases this; done) | exact ⟨trivial, fun m o => ⟨fun q => (by cases q), fun q => (by cases q)⟩⟩

theorem undef_weak {fl : FL} {fr : Fram} {S : Store} (h : ∀ t v, lkO fl t = some v → fr t = v) : Weak ⟨fr, S⟩ ⟨lk' fl, S⟩ := fun w ρ tm hs => by
  refine ⟨ρ, ⟨hs.inj, hs.obj, fun t => ?_, hs.gl⟩, fun m o hm hr => ⟨m, o, hm, hr, rfl, fun _ => rfl⟩, fun _ _ => ⟨rfl, rfl⟩⟩
  simp only [lk']
  cases e : lkO fl t with
  | none => trivial
  | some v => have : VS w ρ S (fr t) (tm.getD t undef) := hs.fr t; rw [h t v e] at this; exact this

theorem entry_weak (args : List AVal) (S : Store) : Weak ⟨entryF args, pushS S⟩ ⟨lk' (entryL 0 (args.map (·.map .out))), ov [] (pushS S)⟩ :=
  undef_weak (S := pushS S) fun t v h => by
    rw [entryL_lk] at h
    simp only [Nat.zero_le, if_true, Nat.sub_zero, List.getElem?_map, Option.map_eq_some_iff] at h
    obtain ⟨x, h1, h2⟩ := h
    simp only [entryF, h1, h2]

theorem ov_self {sl : SL} {S : Store} (h : ∀ m o, lkS sl m = some o → S m = some o) : ov sl S = S := by
  funext m
  simp only [ov]
  split
  · rename_i o e; exact (h m o e).symm
  · rfl

def EndF (P : Program) (fn : Func) (S : Store) (res : AVal) (e : Exit) (st : St) : Prop :=
  (e = .normal ∨ e = .ret) ∧ ∃ T fl vs, TOk P T ∧ Weak st ⟨lk' fl, ov [] (pushS S)⟩ ∧ resL T fl fn.results.toList = some vs ∧ flatL vs = true ∧ oneR vs = res

theorem afun {f : FuncId} {fn : Func} {c : Code} {args : List AVal} {res : AVal} (hf : P.funcs[f]? = some fn) (hb : fn.body = some c) (hname : (fn.name == "runtime.NumGoroutine") = false)
    (hm : P.follows .mixedOrders = true) (hok : okC fn.ntmps mu c = true) (hl : args.length ≤ fn.ntmps) (ha : ∀ x ∈ args, nm0 x) (hr : nm0 res)
    (h : ∀ S, (∀ n b, S n = some b → b.cl S) → awp P mu fn.ntmps c (EndF P fn S res) ⟨lk' (entryL 0 args), ov [] (pushS S)⟩) : AFun P f args res := by
  refine ⟨fun Φ => acalls hf hb hname hm hok hl fun n S _ hn hnf hcl => ?_, hr, ha⟩
  refine awp_weak _ (entry_weak args S) ?_
  have e1 : args.map (·.map .out) = args := by
    conv => rhs; rw [← List.map_id args]
    exact List.map_congr_left fun x hx => AVal.map_nm0 (ha x hx)
  rw [e1]
  refine awp_post (awp_mono (h S hcl) ?_)
  rintro e st ⟨he, T, fl, vs, hT, h1, h2, h3, h4⟩
  have hne := old_ne hn hnf
  refine ⟨_, h1, he, vs, fun _ => .new, resL_spec hT h2, flatL_spec h3, fun _ => rfl, ?_, fun m hm => absurd hm (hr m), by rw [h4, AVal.map_nm0 hr]⟩
  refine ⟨fun m m' h1 h2 e => ?_, fun m o hm => ?_, fun m o hm => hcl m o hm⟩
  · rw [if_neg (hne m h1), if_neg (hne m' h2)] at e; injection e
  · have hm' : S m = some o := hm
    rw [map_old hne (hcl m o hm')]
    show ov [] (pushS S) _ = _
    simp only [ov, lkS, if_neg (hne m (by rw [hm']; simp)), pushS, hm']
    rfl
theorem endF {T : TT} (hT : TOk P T) {fn : Func} {S : Store} {res : AVal} {e : Exit} {fl fl' : FL} {sl : SL} {vs : List AVal} (he : e = .normal ∨ e = .ret) (hS : ∀ n b, S n = some b → b.cl S) (ho : outsL sl = []) (hf : FrzF (ov sl (pushS S)) (ov [] (pushS S)) fl fl')
    (hr : resL T fl' fn.results.toList = some vs) (hfl : flatL vs = true) (h1 : oneR vs = res) : EndF P fn S res e ⟨lk' fl, ov sl (pushS S)⟩ :=
  ⟨he, T, fl', vs, hT, frz hS (by rw [ho]; rfl) trivial hf, hr, hfl, h1⟩

theorem kI {A B : Store} {k : IntKind} {L L' : List Int} (h : L = L') : FrzV A B (.c (.ints k L)) (.c (.ints k L')) := by
  subst h; exact .c (.base (.keep (fun m h => h.elim)))
theorem kN {A B : Store} {k : IntKind} {n n' : Int} (h : n = n') : FrzV A B (ivl k n) (ivl k n') := by
  subst h; exact .c (.base (.keep (fun m h => h.elim)))
theorem kW {A B : Store} {m : Nm} {off len cm : Nat} {ty : TypeId} {k : IntKind} {L L' : List Int} (hm : A m = some (.ints ty k L)) (hb : B m = none) (hl : off + len ≤ L.length) (e : (L.drop off).take len = L') :
    FrzV A B (.c (.win m off len cm)) (.c (.ints k L')) := .c (.base (.win hm hb hl e.symm))
theorem kS {A B : Store} {v : Value} : FrzV A B (.c (.sc v)) (.c (.sc v)) := .c (.base (.keep (fun m h => h.elim)))
theorem kJ {A B : Store} {k : IntKind} : FrzV A B nils (.c (.ints k [])) := .c (.base .nilI)
theorem kWin {A B : Store} {m : Nm} {off len cm off' len' cm' : Nat} (hb : B m ≠ none) (h1 : off = off') (h2 : len = len') (h3 : cm = cm') : FrzV A B (.c (.win m off len cm)) (.c (.win m off' len' cm')) := by
  subst h1; subst h2; subst h3; exact .c (.base (.keep (fun q h => by have e : m = q := h; rw [← e]; exact hb)))
theorem kO {A B : Store} {ty : TypeId} {k : IntKind} {L L' : List Int} (h : L = L') : FrzO A B (.ints ty k L) (.ints ty k L') := by subst h; exact .ints
theorem kA {A B : Store} {ty : TypeId} {k : IntKind} {L L' : List Int} (h : L = L') : FrzO A B (.accI ty k L) (.accI ty k L') := by
  subst h
  refine .acc ⟨rfl, fun i c c' hi hi' => ?_⟩
  rw [hi] at hi'; obtain rfl := Option.some.inj hi'
  refine ⟨rfl, fun j x y hj hj' => ?_⟩
  rw [hj] at hj'; obtain rfl := Option.some.inj hj'
  obtain ⟨z, -, rfl⟩ := List.mem_map.1 (List.mem_of_getElem? hi)
  have := List.mem_of_getElem? hj
  simp only [List.mem_singleton] at this
  subst this
  exact .keep fun m h => h.elim
end
end Go.Abs

/-
  Limbs reckoned with: steps told in natural numbers.
-/
namespace Go.Abs
open Go

theorem wrap_u64 (n : Nat) : IntKind.u64.wrap (n : Int) = ((n % 18446744073709551616 : Nat) : Int) := by
  simp [IntKind.wrap, IntKind.bits, IntKind.signed]
theorem wrap_u64i (n : Int) : IntKind.u64.wrap n = n % 18446744073709551616 := by
  simp [IntKind.wrap, IntKind.bits, IntKind.signed]
theorem bv_nat (n : Nat) : (BitVec.ofInt IntKind.u64.bits (n : Int)).toNat = n % 18446744073709551616 := by
  simp [IntKind.bits]

section
variable {P : Program} {mu : FuncId → Bool} {ops : Array Oper} {fl : FL} {K : St → Prop} {S' : Store} {d : Nat} {ty : TypeId} {pos : String} {after : Array Edge} {t0 t1 : TypeId} {x y : Operand} {k' : IntKind} {a b : Int}

theorem stp_of {op : BinOp} {k : IntKind} {v : AVal} (hx : opO fl x = some (ivl k a)) (hy : opO fl y = some (ivl k' b)) (h : binE P op t0 (ivl k a) (ivl k' b) v) (kk : K ⟨lk' ((d, v) :: fl), S'⟩) :
    Stp P mu ops ⟨some d, .binOp op t0 x y t1, ty, pos, after, none⟩ ⟨lk' fl, S'⟩ K :=
  ⟨⟨putF (lk' fl) (some d) v, S'⟩, ⟨_, S', ⟨.inl (by simp only [PE0]; rw [opO_look hx, opO_look hy]; exact h), rfl⟩, rfl⟩, by rw [putF_lk]; exact kk⟩

theorem stp_mul (A C : Int) (hx : opO fl x = some (ivl .u64 a)) (hy : opO fl y = some (ivl .u64 b)) (ha : 0 ≤ a ∧ a ≤ A) (hb : 0 ≤ b ∧ b ≤ C) (hAC : A * C < 18446744073709551616)
    (kk : ∀ p, p = a * b → 0 ≤ p → p ≤ A * C → K ⟨lk' ((d, ivl .u64 p) :: fl), S'⟩) : Stp P mu ops ⟨some d, .binOp .mul t0 x y t1, ty, pos, after, none⟩ ⟨lk' fl, S'⟩ K := by
  have h0 : 0 ≤ a * b := Int.mul_nonneg ha.1 hb.1
  have h1 : a * b ≤ A * C := Int.le_trans (Int.mul_le_mul_of_nonneg_right ha.2 hb.1) (Int.mul_le_mul_of_nonneg_left hb.2 (Int.le_trans ha.1 ha.2))
  refine stp_of hx hy ?_ (kk _ rfl h0 h1)
  simp only [binE, isShift]
  exact ⟨trivial, by rw [show intE .mul .u64 a b _ = (_ = ivl .u64 (IntKind.u64.wrap (a * b))) from rfl, wrap_in (k := .u64) ⟨h0, by omega⟩]⟩

theorem stp_mulW (m n : Nat) (hx : opO fl x = some (ivl .u64 a)) (hy : opO fl y = some (ivl .u64 b)) (ha : a = m) (hb : b = n) (kk : K ⟨lk' ((d, ivl .u64 ((m * n % 18446744073709551616 : Nat) : Int)) :: fl), S'⟩) :
    Stp P mu ops ⟨some d, .binOp .mul t0 x y t1, ty, pos, after, none⟩ ⟨lk' fl, S'⟩ K := by
  subst ha; subst hb
  refine stp_of hx hy ?_ kk
  simp only [binE, isShift]
  exact ⟨trivial, by rw [show intE .mul .u64 (m : Int) n _ = (_ = ivl .u64 (IntKind.u64.wrap ((m : Int) * n))) from rfl, ← Int.natCast_mul, wrap_u64]⟩

theorem stp_mulN (m n : Nat) (hx : opO fl x = some (ivl .u64 a)) (hy : opO fl y = some (ivl .u64 b)) (ha : a = m) (hb : b = n) (h : m * n < 18446744073709551616) (kk : K ⟨lk' ((d, ivl .u64 ((m * n : Nat) : Int)) :: fl), S'⟩) :
    Stp P mu ops ⟨some d, .binOp .mul t0 x y t1, ty, pos, after, none⟩ ⟨lk' fl, S'⟩ K :=
  stp_mulW m n hx hy ha hb (by rw [Nat.mod_eq_of_lt h]; exact kk)

theorem stp_quoN {m n : Nat} (hx : opO fl x = some (ivl .u64 (m : Int))) (hy : opO fl y = some (ivl .u64 (n : Int))) (h : m < 18446744073709551616 ∧ n ≠ 0) (kk : K ⟨lk' ((d, ivl .u64 ((m / n : Nat) : Int)) :: fl), S'⟩) :
    Stp P mu ops ⟨some d, .binOp .quo t0 x y t1, ty, pos, after, none⟩ ⟨lk' fl, S'⟩ K := by
  refine stp_of hx hy ?_ kk
  simp only [binE, isShift]
  have hle := Nat.div_le_self m n
  refine ⟨trivial, show (n : Int) ≠ 0 ∧ _ = ivl .u64 (IntKind.u64.wrap ((m : Int).tdiv n)) from ⟨by omega, ?_⟩⟩
  rw [Int.tdiv_eq_ediv_of_nonneg (Int.natCast_nonneg _), ← Int.natCast_ediv, wrap_u64, Nat.mod_eq_of_lt (by omega)]
theorem stp_remN {m n : Nat} (hx : opO fl x = some (ivl .u64 (m : Int))) (hy : opO fl y = some (ivl .u64 (n : Int))) (h : n ≠ 0) (kk : K ⟨lk' ((d, ivl .u64 ((m % n : Nat) : Int)) :: fl), S'⟩) :
    Stp P mu ops ⟨some d, .binOp .rem t0 x y t1, ty, pos, after, none⟩ ⟨lk' fl, S'⟩ K := by
  refine stp_of hx hy ?_ kk
  simp only [binE, isShift]
  refine ⟨trivial, show (n : Int) ≠ 0 ∧ _ = ivl .u64 ((m : Int).tmod n) from ⟨by omega, ?_⟩⟩
  rw [Int.tmod_eq_emod_of_nonneg (Int.natCast_nonneg _), ← Int.natCast_emod]

theorem stp_subW (hx : opO fl x = some (ivl .u64 a)) (hy : opO fl y = some (ivl .u64 b)) (kk : K ⟨lk' ((d, ivl .u64 ((a - b) % 18446744073709551616)) :: fl), S'⟩) :
    Stp P mu ops ⟨some d, .binOp .sub t0 x y t1, ty, pos, after, none⟩ ⟨lk' fl, S'⟩ K := by
  refine stp_of hx hy ?_ kk
  simp only [binE, isShift]
  exact ⟨trivial, by rw [← wrap_u64i]; rfl⟩

theorem stp_mask (hx : opO fl x = some (ivl .u64 a)) (hy : opO fl y = some (ivl .u64 4294967295)) (h0 : 0 ≤ a) (kk : K ⟨lk' ((d, ivl .u64 (a % 4294967296)) :: fl), S'⟩) :
    Stp P mu ops ⟨some d, .binOp .and t0 x y t1, ty, pos, after, none⟩ ⟨lk' fl, S'⟩ K := by
  obtain ⟨n, rfl⟩ := Int.eq_ofNat_of_zero_le h0
  refine stp_of hx hy ?_ kk
  simp only [binE, isShift]
  refine ⟨trivial, ?_⟩
  rw [show intE .and .u64 (n : Int) 4294967295 _ = (_ = ivl .u64 (IntKind.u64.wrap (BitVec.ofInt IntKind.u64.bits (n : Int) &&& BitVec.ofInt IntKind.u64.bits 4294967295).toNat)) from rfl]
  rw [wrap_u64, BitVec.toNat_and, bv_nat, show ((4294967295 : Int)) = ((4294967295 : Nat) : Int) from rfl, bv_nat, show 4294967295 % 18446744073709551616 = 2 ^ 32 - 1 from rfl, Nat.and_two_pow_sub_one_eq_mod]
  congr 3
  omega

theorem stp_orN (m n : Nat) (hx : opO fl x = some (ivl .u64 a)) (hy : opO fl y = some (ivl .u64 b)) (ha : a = m) (hb : b = n) (hm : m < 18446744073709551616) (hn : n < 18446744073709551616) (kk : K ⟨lk' ((d, ivl .u64 ((m ||| n : Nat) : Int)) :: fl), S'⟩) :
    Stp P mu ops ⟨some d, .binOp .or t0 x y t1, ty, pos, after, none⟩ ⟨lk' fl, S'⟩ K := by
  subst ha; subst hb
  refine stp_of hx hy ?_ kk
  simp only [binE, isShift]
  refine ⟨trivial, ?_⟩
  rw [show intE .or .u64 (m : Int) n _ = (_ = ivl .u64 (IntKind.u64.wrap (BitVec.ofInt IntKind.u64.bits (m : Int) ||| BitVec.ofInt IntKind.u64.bits n).toNat)) from rfl]
  rw [wrap_u64, BitVec.toNat_or, bv_nat, bv_nat, Nat.mod_eq_of_lt hm, Nat.mod_eq_of_lt hn, Nat.mod_eq_of_lt (show m ||| n < 2 ^ 64 from Nat.or_lt_two_pow hm hn)]

theorem stp_shlN (m s : Nat) (hx : opO fl x = some (ivl .u64 a)) (hy : opO fl y = some (ivl k' b)) (ha : a = m) (hb : b = s) (kk : K ⟨lk' ((d, ivl .u64 ((m * 2 ^ s % 18446744073709551616 : Nat) : Int)) :: fl), S'⟩) :
    Stp P mu ops ⟨some d, .binOp .shl t0 x y t1, ty, pos, after, none⟩ ⟨lk' fl, S'⟩ K := by
  subst ha; subst hb
  refine stp_of hx hy ?_ kk
  simp only [binE, isShift, if_true]
  refine ⟨Int.natCast_nonneg _, ?_⟩
  rw [Int.toNat_natCast, show ((m : Int) * 2 ^ (min s IntKind.u64.bits)) = ((m * 2 ^ (min s 64) : Nat) : Int) by simp [IntKind.bits], wrap_u64]
  suffices hh : m * 2 ^ s % 18446744073709551616 = m * 2 ^ min s 64 % 18446744073709551616 by rw [hh]
  rcases Nat.lt_or_ge s 64 with h | h
  · rw [Nat.min_eq_left (by omega)]
  · rw [Nat.min_eq_right h]
    have e : 2 ^ s = 2 ^ 64 * 2 ^ (s - 64) := by rw [← Nat.pow_add]; congr 1; omega
    rw [e, Nat.mul_left_comm, Nat.mul_comm m]
    rw [show (18446744073709551616 : Nat) = 2 ^ 64 from rfl, Nat.mul_mod_right, Nat.mul_mod_left]

theorem stp_shrN (m s : Nat) (hx : opO fl x = some (ivl .u64 a)) (hy : opO fl y = some (ivl k' b)) (ha : a = m) (hb : b = s) (hm : m < 18446744073709551616) (kk : K ⟨lk' ((d, ivl .u64 ((m / 2 ^ s : Nat) : Int)) :: fl), S'⟩) :
    Stp P mu ops ⟨some d, .binOp .shr t0 x y t1, ty, pos, after, none⟩ ⟨lk' fl, S'⟩ K := by
  subst ha; subst hb
  refine stp_of hx hy ?_ kk
  simp only [binE, isShift, if_true]
  refine ⟨Int.natCast_nonneg _, ?_⟩
  rw [Int.toNat_natCast, Int.fdiv_eq_ediv_of_nonneg _ (Int.le_of_lt (Int.pow_pos (by decide))), show ((2 : Int) ^ (min s IntKind.u64.bits)) = ((2 ^ (min s 64) : Nat) : Int) by simp [IntKind.bits], ← Int.natCast_ediv]
  suffices hh : m / 2 ^ s = m / 2 ^ min s 64 by rw [hh]
  rcases Nat.lt_or_ge s 64 with h | h
  · rw [Nat.min_eq_left (by omega)]
  · rw [Nat.min_eq_right h, Nat.div_eq_of_lt (Nat.lt_of_lt_of_le hm (by show 2 ^ 64 ≤ 2 ^ s; exact Nat.pow_le_pow_right (by decide) h)), Nat.div_eq_of_lt hm]

def p2T : Int → Option Int
  | .ofNat 1 => some 2
  | .ofNat 8 => some 256
  | .ofNat 16 => some 65536
  | .ofNat 32 => some 4294967296
  | _ => none
theorem p2T_spec {s c : Int} (h : p2T s = some c) : (2 : Int) ^ (min s.toNat IntKind.u64.bits) = c ∧ 0 ≤ s := by
  unfold p2T at h
  split at h <;> first | cases h; done | (obtain rfl := Option.some.inj h; exact ⟨by decide, by decide⟩)

theorem stp_shrC {c : Int} (hx : opO fl x = some (ivl .u64 a)) (hy : opO fl y = some (ivl k' b)) (hc : p2T b = some c) (kk : K ⟨lk' ((d, ivl .u64 (a / c)) :: fl), S'⟩) :
    Stp P mu ops ⟨some d, .binOp .shr t0 x y t1, ty, pos, after, none⟩ ⟨lk' fl, S'⟩ K := by
  obtain ⟨h1, h2⟩ := p2T_spec hc
  refine stp_of hx hy ?_ kk
  simp only [binE, isShift, if_true]
  refine ⟨h2, ?_⟩
  rw [h1, Int.fdiv_eq_ediv_of_nonneg]
  rw [← h1]; exact Int.le_of_lt (Int.pow_pos (by decide))

theorem stp_sind' {T : TT} (hT : TOk P T) {i : Operand} {t : Nat} {s : ByteArray} {k : IntKind} {j : Int} (n : Nat) (hu : undT T t = some .string)
    (hx : opO fl x = some (.c (.sc (.string s)))) (hi : opO fl i = some (ivl k j)) (h0 : 0 ≤ j) (hb : ∃ b, s[j.toNat]? = some b ∧ b.toNat = n) (kk : K ⟨lk' ((d, ivl .u8 n) :: fl), S'⟩) :
    Stp P mu ops ⟨some d, .index t x i, ty, pos, after, none⟩ ⟨lk' fl, S'⟩ K := by
  obtain ⟨b, h1, rfl⟩ := hb
  exact stp_sind hT hu hx hi h0 h1 kk
end
/-! ### Families -/
def famL (g : Nat → Nm) : Nat → List AObj → SL
  | _, [] => []
  | i, o :: os => (g i, o) :: famL g (i + 1) os
def ptrsG (g : Nat → Nm) (n : Nat) : List Cell := (List.range n).map fun i => .ptr (g i) 0

theorem ptrsG_get {g : Nat → Nm} {n j : Nat} (h : j < n) : (ptrsG g n)[j]? = some (.ptr (g j) 0) := by simp [ptrsG, h]
theorem ptrsG_len (g : Nat → Nm) (n : Nat) : (ptrsG g n).length = n := by simp [ptrsG]
theorem ptrsG_mem {g : Nat → Nm} {n : Nat} {x : Cell} (h : x ∈ ptrsG g n) : ∃ j, j < n ∧ x = .ptr (g j) 0 := by
  obtain ⟨j, hj, rfl⟩ := List.mem_map.1 h
  exact ⟨j, by simpa using hj, rfl⟩
theorem ptrsG_map (φ : Nm → Nm) (g : Nat → Nm) (n : Nat) : (ptrsG g n).map (·.map φ) = ptrsG (fun i => φ (g i)) n := by simp [ptrsG, Cell.map]

theorem lkS_app : ∀ (a b : SL) (m : Nm), lkS (a ++ b) m = match lkS a m with | some o => some o | none => lkS b m
  | [], b, m => rfl
  | (n, o) :: a, b, m => by
    have ih := lkS_app a b m
    simp only [List.cons_append, lkS]
    by_cases e : m = n
    · simp [e]
    · simp only [if_neg e, ih]
theorem lkS_famS {g : Nat → Nm} (hg : ∀ i j, g i = g j → i = j) : ∀ (os : List AObj) (s j : Nat), lkS (famL g s os) (g (s + j)) = os[j]?
  | [], s, j => by simp [famL, lkS]
  | o :: os, s, j => by
    simp only [famL, lkS]
    cases j with
    | zero => simp
    | succ j =>
      rw [if_neg (fun e => by have := hg _ _ e; omega), show s + (j + 1) = (s + 1) + j by omega, lkS_famS hg os (s + 1) j]
      simp
theorem lkS_fam {g : Nat → Nm} (hg : ∀ i j, g i = g j → i = j) (os : List AObj) (j : Nat) : lkS (famL g 0 os) (g j) = os[j]? := by
  have := lkS_famS hg os 0 j
  rwa [Nat.zero_add] at this
theorem lkS_famN {g : Nat → Nm} {m : Nm} (h : ∀ i, m ≠ g i) : ∀ (os : List AObj) (s : Nat), lkS (famL g s os) m = none
  | [], s => rfl
  | o :: os, s => by simp only [famL, lkS, if_neg (h s)]; exact lkS_famN h os (s + 1)
theorem famL_mem {g : Nat → Nm} {p : Nm × AObj} : ∀ {os : List AObj} {s : Nat}, p ∈ famL g s os → ∃ j, os[j]? = some p.2 ∧ p.1 = g (s + j)
  | [], s, h => by cases h
  | o :: os, s, h => by
    rcases List.mem_cons.1 h with rfl | h
    · exact ⟨0, rfl, rfl⟩
    · obtain ⟨j, h1, h2⟩ := famL_mem h
      exact ⟨j + 1, by simpa using h1, by rw [h2]; congr 1; omega⟩
theorem famL_in {g : Nat → Nm} : ∀ {os : List AObj} {s j : Nat} {o : AObj}, os[j]? = some o → (g (s + j), o) ∈ famL g s os
  | [], s, j, o, h => by simp at h
  | a :: os, s, 0, o, h => by simp only [List.getElem?_cons_zero, Option.some.injEq] at h; subst h; simp [famL]
  | a :: os, s, j + 1, o, h => by
    have := famL_in (g := g) (s := s + 1) (os := os) (j := j) (by simpa using h)
    rw [show s + 1 + j = s + (j + 1) by omega] at this
    exact List.mem_cons_of_mem _ this
theorem famL_fst {g : Nat → Nm} : ∀ (os : List AObj) (s : Nat), (famL g s os).map Prod.fst = (List.range os.length).map fun i => g (s + i)
  | [], s => rfl
  | o :: os, s => by
    rw [famL, List.map_cons, famL_fst os (s + 1), List.length_cons, List.range_succ_eq_map, List.map_cons, List.map_map]
    simp only [Nat.add_zero, Function.comp_def, List.cons.injEq, true_and]
    exact List.map_congr_left fun i _ => by congr 1; omega
theorem famL_nodup {g : Nat → Nm} (hg : ∀ i j, g i = g j → i = j) (os : List AObj) : ((famL g 0 os).map Prod.fst).Nodup := by
  rw [famL_fst]
  refine List.Nodup.map_of (fun i j h => by have := hg _ _ h; omega) List.nodup_range
where
  List.Nodup.map_of {α β : Type} {f : α → β} (hf : ∀ a b, f a = f b → a = b) {l : List α} (h : l.Nodup) : (l.map f).Nodup := by
    induction l with
    | nil => simp
    | cons a l ih =>
      simp only [List.nodup_cons, List.map_cons] at h ⊢
      exact ⟨fun hm => by obtain ⟨b, hb, e⟩ := List.mem_map.1 hm; rw [hf _ _ e] at hb; exact h.1 hb, ih h.2⟩

theorem ov_congr {a b : SL} {S : Store} (h : ∀ m, lkS a m = lkS b m) : ov a S = ov b S := by funext m; simp only [ov, h m]

/-! ### Names that are free -/
theorem freeO_cons {m : Nm} {o : AObj} {r : SL} {d : Nat} (h1 : freeO [(m, o)] d = true) (h2 : freeO r d = true) : freeO ((m, o) :: r) d = true := by
  cases m with
  | loc a => simp only [freeO] at h1 ⊢; split at h1 <;> first | (cases h1; done) | exact h2
  | out a => exact h2
  | new => exact h2
  | fam a i =>
    cases a with
    | loc a => simp only [freeO] at h1 ⊢; split at h1 <;> first | (cases h1; done) | exact h2
    | _ => exact h2
theorem freeO_famG {g : Nat → Nm} {d : Nat} (h : ∀ i o, freeO [(g i, o)] d = true) : ∀ (os : List AObj) (s : Nat), freeO (famL g s os) d = true
  | [], _ => rfl
  | o :: os, s => freeO_cons (h s o) (freeO_famG h os (s + 1))
theorem freeO_famO {g : Nat → Nm} {d : Nat} {os : List AObj} : freeO (famL (fun i => .out (g i)) 0 os) d = true := freeO_famG (fun _ _ => rfl) os 0
theorem freeO_famD {q d : Nat} {os : List AObj} (h : Nat.beq q d = false) : freeO (famL (Nm.fam (.loc q)) 0 os) d = true := freeO_famG (fun _ _ => by simp only [freeO, h]) os 0

theorem freeO_app {d : Nat} : ∀ {a b : SL}, freeO a d = true → freeO b d = true → freeO (a ++ b) d = true
  | [], _, _, h => h
  | (m, o) :: a, b, h1, h2 => by
    have h3 : freeO [(m, o)] d = true ∧ freeO a d = true := by
      cases m with
      | loc q => simp only [freeO] at h1 ⊢; split at h1 <;> first | (cases h1; done) | exact ⟨rfl, h1⟩
      | out q => exact ⟨rfl, h1⟩
      | new => exact ⟨rfl, h1⟩
      | fam q i =>
        cases q with
        | loc q => simp only [freeO] at h1 ⊢; split at h1 <;> first | (cases h1; done) | exact ⟨rfl, h1⟩
        | _ => exact ⟨rfl, h1⟩
    exact freeO_cons h3.1 (freeO_app h3.2 h2)
theorem freeO_outM {d : Nat} : ∀ (U : SL), freeO (U.map fun p => (Nm.out p.1, p.2.map .out)) d = true
  | [] => rfl
  | (_, _) :: U => freeO_outM U

/-! A name that is free, found by itself. -/
theorem fro0 {A : Prop} (t : A := by first | exact rfl | exact freeO_famD rfl | exact freeO_famO | exact freeO_outM _) : A := t
theorem fro1 {A : Prop} (t : A := by first | exact freeO_famD rfl | exact freeO_famO | exact freeO_outM _ | exact freeO_cons rfl fro0 | exact freeO_app fro0 fro0 | exact rfl) : A := t
theorem fro2 {A : Prop} (t : A := by first | exact freeO_famD rfl | exact freeO_famO | exact freeO_outM _ | exact freeO_cons rfl fro1 | exact freeO_app fro1 fro1 | exact rfl) : A := t
theorem fro3 {A : Prop} (t : A := by first | exact freeO_famD rfl | exact freeO_famO | exact freeO_outM _ | exact freeO_cons rfl fro2 | exact freeO_app fro2 fro2 | exact rfl) : A := t
theorem fro4 {A : Prop} (t : A := by first | exact freeO_famD rfl | exact freeO_famO | exact freeO_outM _ | exact freeO_cons rfl fro3 | exact freeO_app fro3 fro3 | exact rfl) : A := t
theorem fro5 {A : Prop} (t : A := by first | exact freeO_famD rfl | exact freeO_famO | exact freeO_outM _ | exact freeO_cons rfl fro4 | exact freeO_app fro4 fro4 | exact rfl) : A := t
theorem fro6 {A : Prop} (t : A := by first | exact freeO_famD rfl | exact freeO_famO | exact freeO_outM _ | exact freeO_cons rfl fro5 | exact freeO_app fro5 fro5 | exact rfl) : A := t
theorem fro7 {A : Prop} (t : A := by first | exact freeO_famD rfl | exact freeO_famO | exact freeO_outM _ | exact freeO_cons rfl fro6 | exact freeO_app fro6 fro6 | exact rfl) : A := t
theorem fro8 {A : Prop} (t : A := by first | exact freeO_famD rfl | exact freeO_famO | exact freeO_outM _ | exact freeO_cons rfl fro7 | exact freeO_app fro7 fro7 | exact rfl) : A := t
theorem fro9 {A : Prop} (t : A := by first | exact freeO_famD rfl | exact freeO_famO | exact freeO_outM _ | exact freeO_cons rfl fro8 | exact freeO_app fro8 fro8 | exact rfl) : A := t
theorem fro10 {A : Prop} (t : A := by first | exact freeO_famD rfl | exact freeO_famO | exact freeO_outM _ | exact freeO_cons rfl fro9 | exact freeO_app fro9 fro9 | exact rfl) : A := t
theorem fro11 {A : Prop} (t : A := by first | exact freeO_famD rfl | exact freeO_famO | exact freeO_outM _ | exact freeO_cons rfl fro10 | exact freeO_app fro10 fro10 | exact rfl) : A := t
theorem fro12 {A : Prop} (t : A := by first | exact freeO_famD rfl | exact freeO_famO | exact freeO_outM _ | exact freeO_cons rfl fro11 | exact freeO_app fro11 fro11 | exact rfl) : A := t
theorem fro13 {A : Prop} (t : A := by first | exact freeO_famD rfl | exact freeO_famO | exact freeO_outM _ | exact freeO_cons rfl fro12 | exact freeO_app fro12 fro12 | exact rfl) : A := t
theorem fro14 {A : Prop} (t : A := by first | exact freeO_famD rfl | exact freeO_famO | exact freeO_outM _ | exact freeO_cons rfl fro13 | exact freeO_app fro13 fro13 | exact rfl) : A := t
theorem fro15 {A : Prop} (t : A := by first | exact freeO_famD rfl | exact freeO_famO | exact freeO_outM _ | exact freeO_cons rfl fro14 | exact freeO_app fro14 fro14 | exact rfl) : A := t
theorem fro16 {A : Prop} (t : A := by first | exact freeO_famD rfl | exact freeO_famO | exact freeO_outM _ | exact freeO_cons rfl fro15 | exact freeO_app fro15 fro15 | exact rfl) : A := t
theorem fro17 {A : Prop} (t : A := by first | exact freeO_famD rfl | exact freeO_famO | exact freeO_outM _ | exact freeO_cons rfl fro16 | exact freeO_app fro16 fro16 | exact rfl) : A := t
theorem fro18 {A : Prop} (t : A := by first | exact freeO_famD rfl | exact freeO_famO | exact freeO_outM _ | exact freeO_cons rfl fro17 | exact freeO_app fro17 fro17 | exact rfl) : A := t
theorem fro19 {A : Prop} (t : A := by first | exact freeO_famD rfl | exact freeO_famO | exact freeO_outM _ | exact freeO_cons rfl fro18 | exact freeO_app fro18 fro18 | exact rfl) : A := t
theorem fro20 {A : Prop} (t : A := by first | exact freeO_famD rfl | exact freeO_famO | exact freeO_outM _ | exact freeO_cons rfl fro19 | exact freeO_app fro19 fro19 | exact rfl) : A := t
theorem fro21 {A : Prop} (t : A := by first | exact freeO_famD rfl | exact freeO_famO | exact freeO_outM _ | exact freeO_cons rfl fro20 | exact freeO_app fro20 fro20 | exact rfl) : A := t
theorem fro22 {A : Prop} (t : A := by first | exact freeO_famD rfl | exact freeO_famO | exact freeO_outM _ | exact freeO_cons rfl fro21 | exact freeO_app fro21 fro21 | exact rfl) : A := t
theorem fro23 {A : Prop} (t : A := by first | exact freeO_famD rfl | exact freeO_famO | exact freeO_outM _ | exact freeO_cons rfl fro22 | exact freeO_app fro22 fro22 | exact rfl) : A := t
theorem fro24 {A : Prop} (t : A := by first | exact freeO_famD rfl | exact freeO_famO | exact freeO_outM _ | exact freeO_cons rfl fro23 | exact freeO_app fro23 fro23 | exact rfl) : A := t
theorem fro {A : Prop} (t : A := by first | exact rfl | exact fro24) : A := t
end Go.Abs

/-
  Short names for the steps: what is found by reckoning is found by itself.
-/
namespace Go.Abs
open Go

section
variable {P : Program} {T : TT} {mu : FuncId → Bool} {N : Nat} {ops : Array Oper} {fl : FL} {sl : SL} {S S' : Store} {K : St → Prop} {Q : Exit → St → Prop} {st : St}
  {d : Nat} {dst : Option Nat} {ty : TypeId} {pos : String} {after : Array Edge}

theorem zr1 {x y : Code} (h : awp P mu N x (thenA (awp P mu N y Q) Q) st) : awp P mu N (.seq x y) Q st := awp_seq h
theorem zr2 {id : Nat} {c : Code} (h : awp P mu N c (blockA id Q) st) : awp P mu N (.block id c) Q st := awp_block h
theorem zr3 {id : Nat} (h : aw P mu N ops Q ops.toList st) : awp P mu N (.region id ops false) Q st := awp_reg h
theorem zr4 {id : Nat} (h : aOps P mu ops ops.toList (Q .normal) st) (hl : ne4 ops.toList = true := by exact rfl) : awp P mu N (.region id ops true) Q st := awp_draw h (by rw [hl]; rfl)
theorem zr19 {id : Nat} (h : aOps P mu ops ops.toList (Q .normal) st) (hl : lexOK mu ops = true := by decide) : awp P mu N (.region id ops true) Q st := awp_draw h (by rw [hl, Bool.or_true])
theorem zr5 (h : Q .normal st) : awp P mu N .skip Q st := awp_skip h
theorem zr6 (h : Q .ret st) : awp P mu N .ret Q st := awp_ret h
theorem zr7 {id : Nat} (h : Q (.exit id) st) : awp P mu N (.exit id) Q st := awp_exit h
theorem zr8 {c : Operand} {x y : Code} (h : awp P mu N x Q ⟨lk' fl, S'⟩) (hc : opO fl c = some (bvl true) := by exact rfl) : awp P mu N (.cond c x y) Q ⟨lk' fl, S'⟩ := awp_ifT hc h
theorem zr9 {c : Operand} {x y : Code} (h : awp P mu N y Q ⟨lk' fl, S'⟩) (hc : opO fl c = some (bvl false) := by exact rfl) : awp P mu N (.cond c x y) Q ⟨lk' fl, S'⟩ := awp_ifF hc h
theorem zr10 (h : K st) : thenA K Q .normal st := h
theorem zr11 (h : Q .ret st) : thenA K Q .ret st := h
theorem zr12 {id : Nat} (h : Q (.exit id) st) : thenA K Q (.exit id) st := h
theorem zr13 {id : Nat} (h : Q .normal st) : blockA id Q .normal st := h
theorem zr14 {id : Nat} (h : Q .ret st) : blockA id Q .ret st := h
theorem zr15 {id id' : Nat} (h : Q .normal st) (e : Nat.beq id' id = true := by exact rfl) : blockA id Q (.exit id') st := blockA_hit e h
theorem zr16 {id id' : Nat} (h : Q (.exit id') st) (e : Nat.beq id' id = false := by exact rfl) : blockA id Q (.exit id') st := blockA_miss e h
theorem zr17 (h : Q .normal st) : aw P mu N ops Q [] st := aw_nil h
theorem zr18 {Q : St → Prop} (h : Q st) : aOps P mu ops [] Q st := h
theorem zw1 {o : Oper} {l : List Oper} (h : Stp P mu ops o st (aw P mu N ops Q l)) : aw P mu N ops Q (o :: l) st := aw_cons h
theorem zw2 {o : Oper} {rest : List Oper} {Q : St → Prop} (h : Stp P mu ops o st (aOps P mu ops rest Q)) : aOps P mu ops (o :: rest) Q st := h
theorem zw3 {o : Oper} (h : Stp P mu ops o st K) : Stp P mu ops o st K := h

theorem zg1 {op : Op} {j t : Nat} {want : Bool} (_ : TOk P T) (k : Stp P mu ops ⟨dst, op, ty, pos, after, none⟩ ⟨lk' fl, S'⟩ K) (hg : (ops[j]?).bind (·.dst) = some t := by exact rfl) (hb : lkO fl t = some (bvl want) := by exact rfl) :
    Stp P mu ops ⟨dst, op, ty, pos, after, some (j, want)⟩ ⟨lk' fl, S'⟩ K := stp_gT hg hb k
theorem zg2 {op : Op} {j t : Nat} {b want : Bool} (_ : TOk P T) (k : K ⟨lk' ((d, .c (.sc undef)) :: fl), S'⟩) (hg : (ops[j]?).bind (·.dst) = some t := by exact rfl) (hb : lkO fl t = some (bvl b) := by exact rfl) (hne : b = !want := by exact rfl) :
    Stp P mu ops ⟨some d, op, ty, pos, after, some (j, want)⟩ ⟨lk' fl, S'⟩ K := stp_gF hg hb hne k
theorem zg3 {op : Op} {j t : Nat} {vs : Array Value} {want : Bool} (_ : TOk P T) (k : K ⟨lk' ((d, .c (.sc undef)) :: fl), S'⟩) (hg : (ops[j]?).bind (·.dst) = some t := by exact rfl) (hb : lkO fl t = some (.c (.sc (.tuple vs))) := by exact rfl) :
    Stp P mu ops ⟨some d, op, ty, pos, after, some (j, want)⟩ ⟨lk' fl, S'⟩ K := stp_gU hg hb k
theorem zg4 {t : TypeId} {x : Operand} {cs : List Leaf} {y : Cell} (hT : TOk P T) (k : K ⟨lk' ((d, .c y) :: fl), S'⟩) (hx : opO fl x = some (.c (.pim cs)) := by exact rfl) (ha : agT T t = some false := by exact rfl) (hy : headL cs = some y := by exact rfl) :
    Stp P mu ops ⟨some d, .load t x, ty, pos, after, none⟩ ⟨lk' fl, S'⟩ K := stp_loadp hT hx ha hy k
theorem zg5 {t0 t1 : TypeId} {x y : Operand} {m n : Nat} (_ : TOk P T) (kk : K ⟨lk' ((d, ivl .u64 ((m / n : Nat) : Int)) :: fl), S'⟩) (hx : opO fl x = some (ivl .u64 (m : Int)) := by exact rfl) (hy : opO fl y = some (ivl .u64 (n : Int)) := by exact rfl)
    (h : m < 18446744073709551616 ∧ n ≠ 0 := by first | exact True.intro | omega | (simp only [and_true, List.length_map, List.length_replicate, List.length_set, List.length_append, List.length_cons, List.length_nil, List.length_take, List.length_drop] at *; omega)) : Stp P mu ops ⟨some d, .binOp .quo t0 x y t1, ty, pos, after, none⟩ ⟨lk' fl, S'⟩ K := stp_quoN hx hy h kk
theorem zg6 {t0 t1 : TypeId} {x y : Operand} {m n : Nat} (_ : TOk P T) (kk : K ⟨lk' ((d, ivl .u64 ((m % n : Nat) : Int)) :: fl), S'⟩) (hx : opO fl x = some (ivl .u64 (m : Int)) := by exact rfl) (hy : opO fl y = some (ivl .u64 (n : Int)) := by exact rfl)
    (h : n ≠ 0 := by first | exact True.intro | omega | (simp only [and_true, List.length_map, List.length_replicate, List.length_set, List.length_append, List.length_cons, List.length_nil, List.length_take, List.length_drop] at *; omega)) : Stp P mu ops ⟨some d, .binOp .rem t0 x y t1, ty, pos, after, none⟩ ⟨lk' fl, S'⟩ K := stp_remN hx hy h kk
theorem zg7 {t0 t1 : TypeId} {x y : Operand} {a : Int} (_ : TOk P T) (kk : K ⟨lk' ((d, ivl .u64 (a % 4294967296)) :: fl), S'⟩) (hx : opO fl x = some (ivl .u64 a) := by exact rfl) (hy : opO fl y = some (ivl .u64 4294967295) := by exact rfl) (h0 : 0 ≤ a := by first | exact True.intro | omega | (simp only [and_true, List.length_map, List.length_replicate, List.length_set, List.length_append, List.length_cons, List.length_nil, List.length_take, List.length_drop] at *; omega)) :
    Stp P mu ops ⟨some d, .binOp .and t0 x y t1, ty, pos, after, none⟩ ⟨lk' fl, S'⟩ K := stp_mask hx hy h0 kk
theorem zg8 {t0 t1 : TypeId} {x y : Operand} {k' : IntKind} {a b c : Int} (_ : TOk P T) (kk : K ⟨lk' ((d, ivl .u64 (a / c)) :: fl), S'⟩) (hx : opO fl x = some (ivl .u64 a) := by exact rfl) (hy : opO fl y = some (ivl k' b) := by exact rfl) (hc : p2T b = some c := by exact rfl) :
    Stp P mu ops ⟨some d, .binOp .shr t0 x y t1, ty, pos, after, none⟩ ⟨lk' fl, S'⟩ K := stp_shrC hx hy hc kk
theorem zg9 {op : Op} {v : AVal} {C : Prop} (hT : TOk P T) (k : K ⟨lk' ((d, v) :: fl), S'⟩) (h : evP T true fl op = some (v, C) := by exact rfl) (hc : C := by first | exact True.intro | omega | (simp only [and_true, List.length_map, List.length_replicate, List.length_set, List.length_append, List.length_cons, List.length_nil, List.length_take, List.length_drop] at *; omega)) :
    Stp P mu ops ⟨some d, op, ty, pos, after, none⟩ ⟨lk' fl, S'⟩ K := stp_pure hT true h hc k
theorem zg10 {t : TypeId} {x : Operand} {m : Nm} {off : Nat} {o : AObj} {y : Cell} {C : Prop} (hT : TOk P T) (k : K ⟨lk' ((d, .c y) :: fl), ov sl S⟩) (hx : opO fl x = some (.c (.ptr m off)) := by exact rfl) (ha : agT T t = some false := by exact rfl)
    (hm : lkS sl m = some o := by exact lks) (hy : objO o off = some (y, C) := by exact rfl) (hc : C := by first | exact True.intro | omega | (simp only [and_true, List.length_map, List.length_replicate, List.length_set, List.length_append, List.length_cons, List.length_nil, List.length_take, List.length_drop] at *; omega)) : Stp P mu ops ⟨some d, .load t x, ty, pos, after, none⟩ ⟨lk' fl, ov sl S⟩ K := stp_load hT hx ha hm hy hc k
theorem zg11 {t : TypeId} {x y : Operand} {m : Nm} {off : Nat} {o o' : AObj} {v : AVal} {C : Prop} (hT : TOk P T) (k : K ⟨lk' fl, ov ((m, o') :: sl) S⟩) (hx : opO fl x = some (.c (.ptr m off)) := by exact rfl) (hy : opO fl y = some v := by exact rfl)
    (hm : lkS sl m = some o := by exact lks) (ho : putO T t o off v = some (o', C) := by exact rfl) (hc : C := by first | exact True.intro | omega | (simp only [and_true, List.length_map, List.length_replicate, List.length_set, List.length_append, List.length_cons, List.length_nil, List.length_take, List.length_drop] at *; omega)) : Stp P mu ops ⟨none, .store t x y, ty, pos, after, none⟩ ⟨lk' fl, ov sl S⟩ K := stp_store hT hx hy hm ho hc k
theorem zg12 {e : TypeId} {z : List Cell} (hT : TOk P T) (k : K ⟨lk' ((d, .c (.ptr (.loc d) 0)) :: fl), ov ((.loc d, .cells e z) :: sl) (pushS S)⟩) (hz : zerF T e = some z := by exact rfl) (hf : freeO sl d = true := by exact fro) :
    Stp P mu ops ⟨some d, .alloc e, ty, pos, after, none⟩ ⟨lk' fl, ov sl (pushS S)⟩ K := stp_alloc hT hz hf k
theorem zg13 {t e : TypeId} {l c : Operand} {a b : Int} {ka kb k : IntKind} (hT : TOk P T) (kk : K ⟨lk' ((d, .c (.win (.loc d) 0 a.toNat b.toNat)) :: fl), ov ((.loc d, .ints e k (List.replicate b.toNat 0)) :: sl) (pushS S)⟩)
    (ht : undT T t = some (.slice e) := by exact rfl) (hc1 : celT T e = 1 := by exact rfl) (hb8 : bytT T e = some 8 := by exact rfl) (hz : zerF T e = some [.sc (.int k 0)] := by exact rfl)
    (hl : opO fl l = some (ivl ka a) := by exact rfl) (hc : opO fl c = some (ivl kb b) := by exact rfl) (hf : freeO sl d = true := by exact fro) (hb : 0 ≤ a ∧ a ≤ b ∧ b ≤ 35184372088832 := by first | exact True.intro | omega | (simp only [and_true, List.length_map, List.length_replicate, List.length_set, List.length_append, List.length_cons, List.length_nil, List.length_take, List.length_drop] at *; omega)) :
    Stp P mu ops ⟨some d, .makeSlice t l c, ty, pos, after, none⟩ ⟨lk' fl, ov sl (pushS S)⟩ K := stp_make hT ht hc1 hb8 hz hl hc hf hb kk
theorem zg14 {t e : TypeId} {l c : Operand} {a b : Int} {ka kb k : IntKind} (hT : TOk P T) (kk : K ⟨lk' ((d, .c (.win (.loc d) 0 a.toNat b.toNat)) :: fl), ov ((.loc d, .ints e k (List.replicate b.toNat 0)) :: sl) (pushS S)⟩)
    (ht : undT T t = some (.slice e) := by exact rfl) (hc1 : celT T e = 1 := by exact rfl) (hb8 : bytT T e = some 1 := by exact rfl) (hz : zerF T e = some [.sc (.int k 0)] := by exact rfl)
    (hl : opO fl l = some (ivl ka a) := by exact rfl) (hc : opO fl c = some (ivl kb b) := by exact rfl) (hf : freeO sl d = true := by exact fro) (hb : 0 ≤ a ∧ a ≤ b ∧ b ≤ 281474976710656 := by first | exact True.intro | omega | (simp only [and_true, List.length_map, List.length_replicate, List.length_set, List.length_append, List.length_cons, List.length_nil, List.length_take, List.length_drop] at *; omega)) :
    Stp P mu ops ⟨some d, .makeSlice t l c, ty, pos, after, none⟩ ⟨lk' fl, ov sl (pushS S)⟩ K := stp_make1 hT ht hc1 hb8 hz hl hc hf hb kk
theorem zg15 {t e : TypeId} {n : Nat} {ps : Array (Nat × Operand)} {k : IntKind} {L : List Int} (hT : TOk P T) (kk : K ⟨lk' ((d, .c (.win (.loc d) 0 n n)) :: fl), ov ((.loc d, .ints e k L) :: sl) (pushS S)⟩)
    (ht : undT T t = some (.slice e) := by exact rfl) (hc1 : celT T e = 1 := by exact rfl) (hz : zerF T e = some [.sc (.int k 0)] := by exact rfl) (hp : intsPart fl ps.toList 0 = some (k, L) := by exact rfl)
    (hn : Nat.beq ps.toList.length n = true := by exact rfl) (hsmall : Nat.ble n 1000 = true := by exact rfl) (hf : freeO sl d = true := by exact fro) :
    Stp P mu ops ⟨some d, .buildSlice t n ps, ty, pos, after, none⟩ ⟨lk' fl, ov sl (pushS S)⟩ K := stp_ints hT ht hc1 hz hp hn hsmall hf kk

theorem s_cmp {op : BinOp} {t0 T' : TypeId} {x y : Operand} {k k' : IntKind} {a b : Int} {p : Prop} (h1 : p → K ⟨lk' ((d, bvl true) :: fl), S'⟩) (h2 : ¬ p → K ⟨lk' ((d, bvl false) :: fl), S'⟩)
    (hx : opO fl x = some (ivl k a) := by exact rfl) (hy : opO fl y = some (ivl k' b) := by exact rfl) (hk : kEq k k' = true := by exact rfl) (hp : cmpP op a b = some p := by exact rfl) :
    Stp P mu ops ⟨some d, .binOp op t0 x y T', ty, pos, after, none⟩ ⟨lk' fl, S'⟩ K := stp_cmp hx hy hk hp h1 h2
theorem s_call {f : FuncId} {as : Array Operand} {tys : Array TypeId} {xs args : List AVal} {res : AVal} (hc : AFun P f args res) (k : K ⟨lk' ((d, res) :: fl), ov sl (pushS S)⟩) (hx : opsO fl as.toList = some xs := by exact rfl)
    (hle : ALes xs args := by repeat (first | exact trivial | refine ⟨ALe.refl _, ?_⟩ | refine ⟨.inr (.inl ⟨_, rfl, rfl⟩), ?_⟩)) (hf : freeO sl d = true := by exact fro) :
    Stp P mu ops ⟨some d, .call ⟨.value (.func f), as, tys⟩, ty, pos, after, none⟩ ⟨lk' fl, ov sl (pushS S)⟩ K := stp_callF hc hx hle hf k

theorem s_appR {s x : Operand} {tys : Array TypeId} {t e : TypeId} {as : Array Operand} {m : Nm} {k : IntKind} {L Y : List Int} {len cm : Nat} {xv : AVal} (hT : TOk P T) (hY : srcE (ov sl S) xv k Y)
    (hl : len + Y.length ≤ cm ∧ len + Y.length ≤ L.length) (kk : K ⟨lk' ((d, .c (.win m 0 (len + Y.length) cm)) :: killL m fl), ov ((m, .ints e k (L.take len ++ Y ++ L.drop (len + Y.length))) :: sl) S⟩)
    (ha : as.toList = [s, x] := by exact rfl) (ht : tys.toList = [t, t] := by exact rfl) (hu : undT T t = some (.slice e) := by exact rfl) (hc1 : celT T e = 1 := by exact rfl)
    (hz : zerT T e = some (.int k 0) := by exact rfl) (hs : opO fl s = some (.c (.win m 0 len cm)) := by exact rfl) (hx : opO fl x = some xv := by exact rfl) (hm : lkS sl m = some (.ints e k L) := by exact lks) :
    Stp P mu ops ⟨some d, .call ⟨.builtin .append, as, tys⟩, ty, pos, after, none⟩ ⟨lk' fl, ov sl S⟩ K := stp_appR hT ha ht hu hc1 hz hs hx hm hY hl kk
end
end Go.Abs

/-
  Functions that write what they are handed; functions that hand out new blocks.
-/
namespace Go.Abs
open Go

structure AProc (P : Program) (f : FuncId) (args : List AVal) (pre post : SL) (res : AVal) : Prop where
  calls : ∀ Φ, (∀ p ∈ pre, Φ p.1 = some p.2) → ACalls P f args Φ (fun _ => res) (fun _ => post)
  nmR : ∀ Φ, (∀ p ∈ pre, Φ p.1 = some p.2) → ∀ q, res.at q → Rch Φ args q
  nmP : ∀ Φ, (∀ p ∈ pre, Φ p.1 = some p.2) → ∀ p ∈ post, Rch Φ args p.1
  postN : ∀ Φ, (∀ p ∈ pre, Φ p.1 = some p.2) → ∀ p ∈ post, ∀ x ∈ p.2.cls, ∀ m, x.at m → Rch Φ args m

def outO (U : SL) : SL := U.map fun p => (.out p.1, p.2)
theorem lkS_outO : ∀ (U : SL) (q : Nm), lkS (outO U) (.out q) = lkS U q
  | [], q => rfl
  | (m, o) :: U, q => by
    have ih := lkS_outO U q
    simp only [outO, List.map_cons, lkS, Nm.out.injEq] at ih ⊢
    rw [ih]
theorem lkS_outO_ne : ∀ (U : SL) (q : Nm), (∀ m, q ≠ .out m) → lkS (outO U) q = none
  | [], q, _ => rfl
  | (m, o) :: U, q, h => by
    have ih := lkS_outO_ne U q h
    simp only [outO, List.map_cons, lkS] at ih ⊢
    rw [if_neg (h m), ih]
theorem lkS_none : ∀ {U : SL} {q : Nm}, (∀ p ∈ U, p.1 ≠ q) → lkS U q = none
  | [], q, _ => rfl
  | (m, o) :: U, q, h => by
    simp only [lkS]
    rw [if_neg (fun e => h (m, o) (by simp) e.symm)]
    exact lkS_none fun p hp => h p (by simp [hp])
theorem updL_lk : ∀ (U : SL) (S : Store) (q : Nm), (U.map Prod.fst).Nodup → updL S U q = match lkS U q with | some o => some o | none => S q
  | [], S, q, _ => rfl
  | (m, o) :: U, S, q, h => by
    simp only [List.map_cons, List.nodup_cons] at h
    simp only [updL]
    rw [updL_lk U _ q h.2]
    simp only [lkS]
    by_cases e : q = m
    · subst e
      rw [if_pos rfl]
      have : lkS U q = none := lkS_none fun p hp e => h.1 (by rw [← e]; exact List.mem_map.2 ⟨p, hp, rfl⟩)
      rw [this]; simp [upd]
    · rw [if_neg e]
      cases lkS U q <;> simp [upd, e]
theorem lkS_mem : ∀ {U : SL} {q : Nm} {o : AObj}, lkS U q = some o → (q, o) ∈ U
  | (m, o') :: U, q, o, h => by
    simp only [lkS] at h
    split at h
    · rename_i e; subst e; obtain rfl := Option.some.inj h; simp
    · exact List.mem_cons_of_mem _ (lkS_mem h)

section
variable {P : Program} {mu : FuncId → Bool}

def EndP (P : Program) (fn : Func) (S : Store) (post : SL) (res : AVal) (e : Exit) (st : St) : Prop :=
  (e = .normal ∨ e = .ret) ∧ ∃ T fl vs, TOk P T ∧ Weak st ⟨lk' fl, ov (outO post) (pushS S)⟩ ∧ resL T fl fn.results.toList = some vs ∧ flatL vs = true ∧ oneR vs = res.map .out

theorem aproc {f : FuncId} {fn : Func} {c : Code} {args : List AVal} {pre post : SL} {res : AVal} (hf : P.funcs[f]? = some fn) (hb : fn.body = some c) (hname : (fn.name == "runtime.NumGoroutine") = false)
    (hm : P.follows .mixedOrders = true) (hok : okC fn.ntmps mu c = true) (hl : args.length ≤ fn.ntmps) (hA : ∀ q x, x ∈ args → x.at q → ∃ o, (q, o) ∈ pre) (hR : ∀ q, res.at q → ∃ x ∈ args, x.at q)
    (hP : ∀ p ∈ post, ∃ x ∈ args, x.at p.1) (hpre0 : ∀ p ∈ pre, p.2.nm0 ∧ ∃ x ∈ args, x.at p.1) (hpost0 : ∀ p ∈ post, p.2.nm0) (hnd : (post.map Prod.fst).Nodup)
    (h : ∀ S, (∀ n b, S n = some b → b.cl S) → awp P mu fn.ntmps c (EndP P fn S post res) ⟨lk' (entryL 0 (args.map (·.map .out))), ov (outO pre) (pushS S)⟩) : AProc P f args pre post res := by
  refine ⟨fun Φ hΦ => acalls hf hb hname hm hok hl fun n S hag hn hnf hcl => ?_, fun Φ _ q hq => .of (hR q hq), fun Φ _ p hp => .of (hP p hp), fun Φ _ p hp x hx m hm => absurd hm (hpost0 p hp x hx m)⟩
  have hS : ∀ p ∈ pre, S p.1 = some p.2 := fun p hp => by
    obtain ⟨x, hx, hq⟩ := (hpre0 p hp).2
    rw [hag p.1 (.base hx hq)]; exact hΦ p hp
  have e0 : ov (outO pre) (pushS S) = ov [] (pushS S) := by
    rw [show ov [] (pushS S) = pushS S from rfl]
    refine ov_self fun m o hm => ?_
    have : ∃ q, m = .out q := by
      cases m with
      | out q => exact ⟨q, rfl⟩
      | _ => rw [lkS_outO_ne _ _ (fun m e => by cases e)] at hm; cases hm
    obtain ⟨q, rfl⟩ := this
    rw [lkS_outO] at hm
    have := hS _ (lkS_mem hm)
    simp only at this
    simp only [pushS, this, Option.map_some, AObj.map_nm0 (hpre0 _ (lkS_mem hm)).1]
  refine awp_weak _ (entry_weak args S) ?_
  have hh := h S hcl
  rw [e0] at hh
  refine awp_post (awp_mono hh ?_)
  have hne := old_ne hn hnf
  have hnames : ∀ q, (∃ x ∈ args, x.at q) → S q ≠ none := fun q ⟨x, hx, hq⟩ => by
    obtain ⟨o, ho⟩ := hA q x hx hq
    rw [hS _ ho]; simp
  have hpostS : ∀ q o, lkS post q = some o → S q ≠ none := fun q o ho => hnames q (hP _ (lkS_mem ho))
  rintro e st ⟨he, T, fl, vs, hT, h1, h2, h3, h4⟩
  refine ⟨_, h1, he, vs, fun _ => .new, resL_spec hT h2, flatL_spec h3, fun _ => rfl, ?_, ?_, ?_⟩
  · have hdom : ∀ m, updL S post m ≠ none → S m ≠ none := fun m hm => by
      rw [updL_lk _ _ _ hnd] at hm
      cases e : lkS post m with
      | none => rw [e] at hm; exact hm
      | some o => exact hpostS m o e
    refine ⟨fun m m' q1 q2 e => ?_, fun m o hm => ?_, fun m o hm => ?_⟩
    · rw [if_neg (hne m (hdom m q1)), if_neg (hne m' (hdom m' q2))] at e; injection e
    · have hm0 := hdom m (by rw [hm]; simp)
      rw [if_neg (hne m hm0)]
      rw [updL_lk _ _ _ hnd] at hm
      simp only [ov, lkS_outO]
      cases e : lkS post m with
      | none =>
        rw [e] at hm
        simp only at hm ⊢
        rw [map_old hne (hcl m o hm)]
        simp [pushS, hm]
      | some o' =>
        rw [e] at hm
        obtain rfl := Option.some.inj hm
        rw [AObj.map_nm0 (hpost0 _ (lkS_mem e))]
    · rw [updL_lk _ _ _ hnd] at hm
      have mono : ∀ q, S q ≠ none → updL S post q ≠ none := fun q hq => updL_dom _ _ _ hq
      cases e : lkS post m with
      | none =>
        rw [e] at hm
        exact cl_mono mono (hcl m o hm)
      | some o' =>
        rw [e] at hm
        obtain rfl := Option.some.inj hm
        exact AObj.cl_nm0 (hpost0 _ (lkS_mem e))
  · exact fun q hq => updL_dom _ _ _ (hnames q (hR q hq))
  · rw [h4]
    exact AVal.map_congr fun q hq => by rw [if_neg (hne q (hnames q (hR q hq)))]

variable {T : TT} {ops : Array Oper} {fl : FL} {sl : SL} {S : Store} {K : St → Prop} {d : Nat} {ty : TypeId} {pos : String} {after : Array Edge}

theorem AProc.side {f : FuncId} {args : List AVal} {pre post : SL} {res : AVal} {dd : Option Nat} {Φ : Store} (hΦ : ∀ p ∈ pre, Φ p.1 = some p.2) (hc : AProc P f args pre post res) (hmu : mu f = true) : ASide mu f dd Φ args res post :=
  ⟨fun p hp => .inr (.inr ⟨hmu, hc.nmP Φ hΦ p hp⟩), .inr (.inl hmu), fun m hm => .inr (hc.nmR Φ hΦ m hm), fun p hp x hx m hm => .inr (hc.postN Φ hΦ p hp x hx m hm)⟩

theorem s_proc {g : Operand} {f : FuncId} {caps : List Cell} {as : Array Operand} {tys : Array TypeId} {xs args : List AVal} {pre post : SL} {res : AVal} (hc : AProc P f args pre post res) (k : K ⟨lk' ((d, res) :: fl), ov (addL sl post) (pushS S)⟩)
    (hpre : ∀ p ∈ pre, lkS sl p.1 = some p.2) (hmu : mu f = true := by exact rfl) (hg : opO fl g = some (.fn f caps) := by exact rfl) (hx : opsO fl as.toList = some xs := by exact rfl)
    (hle : ALes (xs ++ caps.map .c) args := by repeat (first | exact trivial | refine ⟨ALe.refl _, ?_⟩ | refine ⟨.inr (.inl ⟨_, rfl, rfl⟩), ?_⟩)) (hf : freeO sl d = true := by exact fro) :
    Stp P mu ops ⟨some d, .call ⟨.value g, as, tys⟩, ty, pos, after, none⟩ ⟨lk' fl, ov sl (pushS S)⟩ K :=
  stp_call (hc.calls (ov sl (pushS S)) fun p hp => ov_of (hpre p hp)) hg hx hle hf (fun _ _ => rfl) (hc.side (fun p hp => ov_of (hpre p hp)) hmu) k
end
end Go.Abs

/-
  Functions that hand out a new block; rows of cells that are told as they stand.
-/
namespace Go.Abs
open Go

structure ANew (P : Program) (f : FuncId) (args : List AVal) (ty : TypeId) (ls : List Leaf) : Prop where
  calls : ∀ Φ, ACalls P f args Φ (fun n => .c (.ptr n 0)) (fun n => [(n, .cells ty (ls.map Leaf.cell))])
  args0 : ∀ x ∈ args, nm0 x

theorem Leaf.cell_nm (l : Leaf) (m : Nm) : ¬ l.cell.at m := by cases l <;> exact fun h => h
theorem leaves_nm0 {ls : List Leaf} {x : Cell} (h : x ∈ ls.map Leaf.cell) (m : Nm) : ¬ x.at m := by
  obtain ⟨l, -, rfl⟩ := List.mem_map.1 h
  exact l.cell_nm m

section
variable {P : Program} {mu : FuncId → Bool}

theorem ANew.pim {f : FuncId} {args : List AVal} {ty : TypeId} {ls : List Leaf} (h : ANew P f args ty ls) : AFun P f args (.c (.pim ls)) where
  res0 := fun m hm => hm.elim
  args0 := h.args0
  calls Φ n S hag hn hnf w ρ vs he hgl hvs := by
    rcases h.calls Φ n S hag hn hnf w ρ vs he hgl hvs with ⟨hrun, hc⟩ | ⟨v, -, -, hu⟩
    · refine .inl ⟨hrun, hc.mono ?_⟩
      rintro e w' ⟨ρ', v, e1, e2, e3, e4⟩
      have hS' : ∀ m o, S m = some o → updL S [(n, .cells ty (ls.map Leaf.cell))] m = some o := fun m o hm => by
        have : m ≠ n := fun q => by rw [q, hn] at hm; cases hm
        simp only [updL, upd_ne _ _ this, hm]
      have hS2 : ∀ m o, m ≠ n → updL S [(n, .cells ty (ls.map Leaf.cell))] m = some o → S m = some o := fun m o q hm => by
        simp only [updL, upd_ne _ _ q] at hm; exact hm
      have hne : ∀ {m o}, S m = some o → m ≠ n := fun hm q => by rw [q, hn] at hm; cases hm
      have hO : Sub (updL S [(n, .cells ty (ls.map Leaf.cell))]) S := fun m o hm => .inl ⟨o, hS' m o hm, by
        exact .keep fun x hx q hq => AObj.cl_cls.1 (he.cl m _ hm) x hx q hq⟩
      refine ⟨ρ', v, e1, ⟨fun m m' o o' h1 h2 r1 r2 e => e2.inj m m' o o' (hS' _ _ h1) (hS' _ _ h2) r1 r2 e, fun m o hm => ?_⟩, ⟨e3.os, e3.tape, e3.output, e3.size, e3.old, fun m o hm hr => e3.nms m o (hS' _ _ hm) hr, fun m o hm ha => ?_, e3.szs, fun m ty' k L hX hm => ?_, fun _ h => h.elim⟩, ?_⟩
      · have ho := e2.obj m o (hS' m o hm)
        cases o with
        | ints ty k L => exact ho
        | fix x => exact ho
        | row ty cs =>
          obtain ⟨vs, q1, q2⟩ := ho
          refine ⟨vs, q1, fun i y hy => ?_⟩
          obtain ⟨u, p1, p2, p3⟩ := q2 i y hy
          exact ⟨u, p1, p2, FrzC0.held hO e2 (.keep fun q hq => he.cl m _ hm y (List.mem_of_getElem? hy) q hq) p3⟩
        | acc ty sz L =>
          rcases ho with ho | ⟨vs, q1, q0, q2⟩
          · exact .inl ho
          · refine .inr ⟨vs, q1, q0, fun i c j y hi hj => ?_⟩
            obtain ⟨u, p1, p2, p3⟩ := q2 i c j y hi hj
            exact ⟨u, p1, p2, FrzC0.held hO e2 (.keep fun q hq => he.cl m _ hm c (List.mem_of_getElem? hi) y (List.mem_of_getElem? hj) q hq) p3⟩
        | cells ty cs =>
          obtain ⟨vs, q1, q0, q2⟩ := ho
          refine ⟨vs, q1, q0, fun i y hy => ?_⟩
          obtain ⟨u, p1, p2, p3⟩ := q2 i y hy
          exact ⟨u, p1, p2, FrzC0.held hO e2 (.keep fun q hq => he.cl m _ hm y (List.mem_of_getElem? hy) q hq) p3⟩
      · obtain ⟨o', a1, a2, a3⟩ := e3.kp m o hm ha
        exact ⟨o', hS2 m o' (hne hm) a1, a2, a3⟩
      · obtain ⟨a1, a2⟩ := e3.acc m ty' k L hX hm
        exact ⟨hS2 m _ (hne hm) a1, a2⟩
      · refine FrzV.held hO e2 (.c (.base (.ptr (ty := ty) (cs := ls.map Leaf.cell) (fun j => ((ls[j]?).map Leaf.cell).getD .junk) (.inl (by simp [updL, upd])) hn (fun j l hj => by simp [hj]) fun j l hj => by
          simp only [hj, Option.map_some, Option.getD_some]
          exact .keep fun q hq => absurd hq (l.cell_nm q)))) e4
    · cases hu

def EndN (P : Program) (fn : Func) (S : Store) (ty : TypeId) (ls : List Leaf) (e : Exit) (st : St) : Prop :=
  (e = .normal ∨ e = .ret) ∧ ∃ T fl l, TOk P T ∧ l.isOut = false ∧ Weak st ⟨lk' fl, ov [(l, .cells ty (ls.map Leaf.cell))] (pushS S)⟩ ∧ resL T fl fn.results.toList = some [.c (.ptr l 0)]

theorem back_new {S : Store} {n l : Nm} {ob : AObj} (hlo : l.isOut = false) (hob : ob.nm0) (hn : S n = none) (hnf : ∀ i, S (.fam n i) = none) (hcl : ∀ n b, S n = some b → b.cl S) :
    Back (fun m => if m.isNew n = true then l else .out m) (ov [(l, ob)] (pushS S)) (updL S [(n, ob)]) := by
  have hne := old_ne hn hnf
  have hnew : ∀ m, m ≠ n → updL S [(n, ob)] m ≠ none → S m ≠ none := fun m e h => by simpa [updL, upd, e] using h
  refine ⟨fun m m' q1 q2 e => ?_, fun m o hm => ?_, fun m o hm => ?_⟩
  · by_cases a : m = n <;> by_cases b : m' = n
    · rw [a, b]
    · subst a
      rw [if_pos (Nm.isNew_self m), if_neg (hne m' (hnew m' b q2))] at e
      rw [e] at hlo; cases hlo
    · subst b
      rw [if_pos (Nm.isNew_self m'), if_neg (hne m (hnew m a q1))] at e
      rw [← e] at hlo; cases hlo
    · rw [if_neg (hne m (hnew m a q1)), if_neg (hne m' (hnew m' b q2))] at e; injection e
  · by_cases a : m = n
    · subst a
      simp only [updL, upd_same] at hm
      obtain rfl := Option.some.inj hm
      rw [if_pos (Nm.isNew_self m), AObj.map_nm0 hob]
      simp [ov, lkS]
    · simp only [updL, upd_ne _ _ a] at hm
      have hq := hne m (by rw [hm]; simp)
      rw [if_neg hq, map_old hne (hcl m o hm)]
      have : ¬ Nm.out m = l := fun q => by subst q; cases hlo
      show ov _ (pushS S) _ = _
      simp only [ov, lkS, if_neg this, pushS, hm]
      rfl
  · by_cases a : m = n
    · subst a
      simp only [updL, upd_same] at hm
      obtain rfl := Option.some.inj hm
      exact AObj.cl_nm0 hob
    · simp only [updL, upd_ne _ _ a] at hm
      exact cl_mono (fun q hq => upd_dom hq) (hcl m o hm)

theorem anew {f : FuncId} {fn : Func} {c : Code} {args : List AVal} {ty : TypeId} {ls : List Leaf} (hf : P.funcs[f]? = some fn) (hb : fn.body = some c) (hname : (fn.name == "runtime.NumGoroutine") = false)
    (hm : P.follows .mixedOrders = true) (hok : okC fn.ntmps mu c = true) (hl : args.length ≤ fn.ntmps) (ha : ∀ x ∈ args, nm0 x)
    (h : ∀ S, (∀ n b, S n = some b → b.cl S) → awp P mu fn.ntmps c (EndN P fn S ty ls) ⟨lk' (entryL 0 args), ov [] (pushS S)⟩) : ANew P f args ty ls := by
  refine ⟨fun Φ => acalls hf hb hname hm hok hl fun n S _ hn hnf hcl => ?_, ha⟩
  refine awp_weak _ (entry_weak args S) ?_
  have e1 : args.map (·.map .out) = args := by
    conv => rhs; rw [← List.map_id args]
    exact List.map_congr_left fun x hx => AVal.map_nm0 (ha x hx)
  rw [e1]
  refine awp_post (awp_mono (h S hcl) ?_)
  rintro e st ⟨he, T, fl, l, hT, hlo, h1, h2⟩
  exact ⟨_, h1, he, _, fun _ => l, resL_spec hT h2, fun x hx => .inl (by simp), fun _ => hlo, back_new hlo (fun x hx q => leaves_nm0 hx q) hn hnf hcl, fun m hm => by have : n = m := hm; subst this; simp [updL, upd], by simp [oneR, AVal.map, AVal.map1, Cell.map, Nm.isNew_self]⟩

theorem endN {T : TT} (hT : TOk P T) {fn : Func} {S : Store} {ty : TypeId} {ls : List Leaf} {e : Exit} {fl fl' : FL} {sl : SL} {l : Nm} (he : e = .normal ∨ e = .ret) (hS : ∀ n b, S n = some b → b.cl S) (hl : l.isOut = false) (ho : outsL sl = [])
    (hs : FrzS (ov sl (pushS S)) (ov [(l, .cells ty (ls.map Leaf.cell))] (pushS S)) [(l, .cells ty (ls.map Leaf.cell))]) (hf : FrzF (ov sl (pushS S)) (ov [(l, .cells ty (ls.map Leaf.cell))] (pushS S)) fl fl')
    (hr : resL T fl' fn.results.toList = some [.c (.ptr l 0)]) : EndN P fn S ty ls e ⟨lk' fl, ov sl (pushS S)⟩ :=
  ⟨he, T, fl', l, hT, hl, frz hS (by rw [ho]; cases l <;> first | rfl | cases hl) hs hf, hr⟩

variable {T : TT} {ops : Array Oper} {fl : FL} {sl : SL} {S : Store} {K : St → Prop} {d : Nat} {ty : TypeId} {pos : String} {after : Array Edge}

theorem s_new {f : FuncId} {as : Array Operand} {tys : Array TypeId} {xs args : List AVal} {tb : TypeId} {ls : List Leaf} (hc : ANew P f args tb ls) (k : K ⟨lk' ((d, .c (.ptr (.loc d) 0)) :: fl), ov ((.loc d, .cells tb (ls.map Leaf.cell)) :: sl) (pushS S)⟩) (hx : opsO fl as.toList = some xs := by exact rfl)
    (hle : ALes xs args := by repeat (first | exact trivial | refine ⟨ALe.refl _, ?_⟩ | refine ⟨.inr (.inl ⟨_, rfl, rfl⟩), ?_⟩)) (hf : freeO sl d = true := by exact fro) :
    Stp P mu ops ⟨some d, .call ⟨.value (.func f), as, tys⟩, ty, pos, after, none⟩ ⟨lk' fl, ov sl (pushS S)⟩ K :=
  stp_call (hc.calls (ov sl (pushS S))) rfl hx (by simpa using hle) hf (fun _ _ => rfl)
    ⟨fun p hp => .inl (by simp at hp; rw [hp]; rfl), .inr (.inr ⟨d, _, rfl, rfl⟩), fun m hm => .inl ⟨.cells tb (ls.map Leaf.cell), by rw [← show Nm.loc d = m from hm]; simp⟩,
      fun p hp x hx m hm => by
        simp at hp; subst hp
        exact absurd hm (leaves_nm0 hx m)⟩ k
end

/-! ### Rows of cells -/
def FrzCs (A B : Store) : List Cell → List Cell → Prop
  | [], [] => True
  | x :: xs, y :: ys => FrzC A B x y ∧ FrzCs A B xs ys
  | _ :: _, [] => False
  | [], _ :: _ => False
theorem FrzCs.len {A B : Store} : ∀ {xs ys : List Cell}, FrzCs A B xs ys → xs.length = ys.length
  | [], [], _ => rfl
  | _ :: xs, _ :: ys, ⟨_, h⟩ => by rw [List.length_cons, List.length_cons, FrzCs.len h]
  | _ :: _, [], h => h.elim
  | [], _ :: _, h => h.elim
theorem FrzCs.at {A B : Store} : ∀ {xs ys : List Cell}, FrzCs A B xs ys → ∀ (i : Nat) (y : Cell), ys[i]? = some y → ∃ x, xs[i]? = some x ∧ FrzC A B x y
  | x :: xs, y :: ys, ⟨h1, h2⟩, i, z, hi => by
    match i with
    | 0 => simp only [List.getElem?_cons_zero, Option.some.injEq] at hi; subst hi; exact ⟨x, rfl, h1⟩
    | i + 1 => exact FrzCs.at h2 i z (by simpa using hi)
  | _, [], _, i, z, hi => by simp at hi
def FrzLs (A B : Store) : List Cell → List Leaf → Prop
  | _, [] => True
  | x :: xs, y :: ys => FrzC0 A B x y.cell ∧ FrzLs A B xs ys
  | [], _ :: _ => False
theorem FrzLs.at {A B : Store} : ∀ {xs : List Cell} {ys : List Leaf}, FrzLs A B xs ys → ∀ (i : Nat) (y : Leaf), ys[i]? = some y → ∃ x, xs[i]? = some x ∧ FrzC0 A B x y.cell
  | x :: xs, y :: ys, ⟨h1, h2⟩, i, z, hi => by
    match i with
    | 0 => simp only [List.getElem?_cons_zero, Option.some.injEq] at hi; subst hi; exact ⟨x, rfl, h1⟩
    | i + 1 => exact FrzLs.at h2 i z (by simpa using hi)
  | _, [], _, i, z, hi => by simp at hi

section
variable {A B : Store}
theorem kP {m : Nm} {off : Nat} {ty : TypeId} {cs : List Cell} {ls : List Leaf} (hm : A m = some (.cells ty cs)) (hb : B m = none) (h : FrzLs A B (cs.drop off) ls) : FrzV A B (.c (.ptr m off)) (.c (.pim ls)) := by
  refine .c (.base (.ptr (fun j => (cs[off + j]?).getD .junk) (.inl hm) hb (fun j l hj => ?_) fun j l hj => ?_))
  · obtain ⟨x, h1, h2⟩ := h.at j l hj
    rw [List.getElem?_drop] at h1
    rw [h1]; rfl
  · obtain ⟨x, h1, h2⟩ := h.at j l hj
    rw [List.getElem?_drop] at h1
    simp only [h1, Option.getD_some]
    exact h2
theorem kPtr {m : Nm} {off : Nat} (hb : B m ≠ none) : FrzV A B (.c (.ptr m off)) (.c (.ptr m off)) := .c (.base (.keep fun q h => by rw [← show m = q from h]; exact hb))
theorem kPim {cs cs' : List Leaf} (h : cs = cs') : FrzV A B (.c (.pim cs)) (.c (.pim cs')) := by subst h; exact .c (.base (.keep fun q h => h.elim))
theorem lS {v v' : Value} (h : v = v') : FrzC0 A B (.sc v) (.sc v') := by subst h; exact .keep fun q h => h.elim
theorem lI {k : IntKind} {L L' : List Int} (h : L = L') : FrzC0 A B (.ints k L) (.ints k L') := by subst h; exact .keep fun q h => h.elim
theorem lJ {k : IntKind} : FrzC0 A B (.sc (.slice none 0 0)) (.ints k []) := .nilI
theorem kB {b b' : Bool} (h : b = b') : FrzV A B (bvl b) (bvl b') := by subst h; exact kS
theorem kFn {f : FuncId} {xs : List Cell} (h : ∀ x ∈ xs, ∀ m, x.at m → B m ≠ none) : FrzV A B (.fn f xs) (.fn f xs) := .fn rfl fun i x y hx hy => by rw [hx] at hy; obtain rfl := Option.some.inj hy; exact .base (.keep (h x (List.mem_of_getElem? hx)))
theorem kAcc {m : Nm} {n : Nat} {ty : TypeId} {k : IntKind} {L L' : List Int} (hm : A m = some (.accI ty k L)) (hb : B m = none) (e : L = L') : FrzV A B (.accv m n) (.c (.ints k L')) := by subst e; exact .accI hm hb
theorem kAccK {m : Nm} {n n' : Nat} {ty : TypeId} {sz : Nat} {L L' : List (List Cell)} (h1 : A m = some (.acc ty sz L)) (h2 : B m = some (.acc ty sz L')) (hl : L'.length = L.length) (hn : n' = L.length) : FrzV A B (.accv m n) (.accv m n') := .accK h1 h2 hl hn
end
end Go.Abs
