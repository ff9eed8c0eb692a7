/-
  An abstract machine for this program, and contracts of its functions: part Mah (no statement by itself).
-/
import Derived.Test.YtdbjhcgogmfghaaDoorMag
import Derived.Scope
import Derived.Test.YtdbjhcgogmfghaaDoorMaf
set_option linter.unusedVariables false
set_option linter.unusedSimpArgs false
set_option linter.unnecessarySimpa false

/-
  Rows of floats and of complex numbers; NaNs handed in; copies.
-/
namespace Go.Abs
open Go

abbrev CP := Option Nat × Option Nat
abbrev z0 : CP := (some 0, some 0)
abbrev zC (p : CP) : Cell := .fx (.z p.1 p.2)
abbrev zLf (p : CP) : List Leaf := [.fx (.z p.1 p.2)]
abbrev fC (a : Option Nat) : Cell := .fx (.f a)
abbrev fLf (a : Option Nat) : List Leaf := [.fx (.f a)]
abbrev cq (L : List CP) : AVal := .c (.seq 1 (L.map zLf))
abbrev fq (L : List (Option Nat)) : AVal := .c (.seq 1 (L.map fLf))

theorem map_getD {α β : Type} (f : α → β) (l : List α) (j : Nat) (a : α) (b : β) (h : j < l.length) : (l.map f).getD j b = f (l.getD j a) := by
  rw [List.getD_eq_getElem?_getD, List.getD_eq_getElem?_getD, List.getElem?_map, List.getElem?_eq_getElem h]; rfl
theorem map_get? {α β : Type} (f : α → β) (l : List α) (j : Nat) (a : α) (h : j < l.length) : (l.map f)[j]? = some (f (l.getD j a)) := by
  rw [List.getElem?_map, List.getD_eq_getElem?_getD, List.getElem?_eq_getElem h]; rfl
theorem rep_one (n : Nat) (x : Cell) : rep n [x] = List.replicate n x := by
  induction n with
  | zero => rfl
  | succ n ih => unfold rep at ih ⊢; rw [List.replicate_succ, List.flatten_cons, ih, List.replicate_succ]; rfl
theorem spl_set (cs : List Cell) (off : Nat) (x : Cell) (h : off < cs.length) : spl cs off [x] = cs.set off x := by
  unfold spl
  rw [List.set_eq_take_append_cons_drop, if_pos h, List.append_assoc]; rfl

section
variable {P : Program} {T : TT} {mu : FuncId → Bool} {ops : Array Oper} {fl : FL} {sl : SL} {S S' : Store} {K : St → Prop}
  {d : Nat} {ty : TypeId} {pos : String} {after : Array Edge}

theorem zp1 {t e : TypeId} {x i : Operand} {ki : IntKind} {L : List CP} {j : Nat} (hT : TOk P T) (kk : K ⟨lk' ((d, .c (.pim (zLf (L.getD j z0)))) :: fl), S'⟩)
    (ht : undT T t = some (.slice e) := by exact rfl) (hc : celT T e = 1 := by exact rfl) (hx : opO fl x = some (cq L) := by exact rfl) (hi : opO fl i = some (ivl ki (j : Int)) := by exact rfl) (h : j < L.length := by first | omega | (simp only [List.length_map, List.length_replicate, List.length_set, List.length_append, List.length_cons, List.length_nil, List.length_take, List.length_drop] at *; omega)) :
    Stp P mu ops ⟨some d, .indexAddr t x i, ty, pos, after, none⟩ ⟨lk' fl, S'⟩ K := by
  refine stp_pure hT true (v := .c (.pim ((L.map zLf).getD (j : Int).toNat []))) (C := 0 ≤ (j : Int) ∧ (j : Int) < (L.map zLf).length) (by simp only [evP, evF, evP0, ht, hc, hx, hi]; try rfl) ⟨by omega, by rw [List.length_map]; omega⟩ ?_
  rw [Int.toNat_natCast, map_getD zLf L j z0 [] h]; exact kk
theorem zp1' {t e : TypeId} {x i : Operand} {ki : IntKind} {L : List CP} {j : Int} (hT : TOk P T) (kk : K ⟨lk' ((d, .c (.pim (zLf (L.getD j.toNat z0)))) :: fl), S'⟩)
    (ht : undT T t = some (.slice e) := by exact rfl) (hc : celT T e = 1 := by exact rfl) (hx : opO fl x = some (cq L) := by exact rfl) (hi : opO fl i = some (ivl ki j) := by exact rfl) (h : 0 ≤ j ∧ j < L.length := by first | omega | (simp only [List.length_map, List.length_replicate, List.length_set, List.length_append, List.length_cons, List.length_nil, List.length_take, List.length_drop] at *; omega)) :
    Stp P mu ops ⟨some d, .indexAddr t x i, ty, pos, after, none⟩ ⟨lk' fl, S'⟩ K := by
  refine stp_pure hT true (v := .c (.pim ((L.map zLf).getD j.toNat []))) (C := 0 ≤ j ∧ j < (L.map zLf).length) (by simp only [evP, evF, evP0, ht, hc, hx, hi]; try rfl) ⟨h.1, by rw [List.length_map]; omega⟩ ?_
  rw [map_getD zLf L j.toNat z0 [] (by omega)]; exact kk
theorem zp2 {t e : TypeId} {x i : Operand} {ki : IntKind} {L : List (Option Nat)} {j : Nat} (hT : TOk P T) (kk : K ⟨lk' ((d, .c (.pim (fLf (L.getD j (some 0))))) :: fl), S'⟩)
    (ht : undT T t = some (.slice e) := by exact rfl) (hc : celT T e = 1 := by exact rfl) (hx : opO fl x = some (fq L) := by exact rfl) (hi : opO fl i = some (ivl ki (j : Int)) := by exact rfl) (h : j < L.length := by first | omega | (simp only [List.length_map, List.length_replicate, List.length_set, List.length_append, List.length_cons, List.length_nil, List.length_take, List.length_drop] at *; omega)) :
    Stp P mu ops ⟨some d, .indexAddr t x i, ty, pos, after, none⟩ ⟨lk' fl, S'⟩ K := by
  refine stp_pure hT true (v := .c (.pim ((L.map fLf).getD (j : Int).toNat []))) (C := 0 ≤ (j : Int) ∧ (j : Int) < (L.map fLf).length) (by simp only [evP, evF, evP0, ht, hc, hx, hi]; try rfl) ⟨by omega, by rw [List.length_map]; omega⟩ ?_
  rw [Int.toNat_natCast, map_getD fLf L j (some 0) [] h]; exact kk
theorem zp2' {t e : TypeId} {x i : Operand} {ki : IntKind} {L : List (Option Nat)} {j : Int} (hT : TOk P T) (kk : K ⟨lk' ((d, .c (.pim (fLf (L.getD j.toNat (some 0))))) :: fl), S'⟩)
    (ht : undT T t = some (.slice e) := by exact rfl) (hc : celT T e = 1 := by exact rfl) (hx : opO fl x = some (fq L) := by exact rfl) (hi : opO fl i = some (ivl ki j) := by exact rfl) (h : 0 ≤ j ∧ j < L.length := by first | omega | (simp only [List.length_map, List.length_replicate, List.length_set, List.length_append, List.length_cons, List.length_nil, List.length_take, List.length_drop] at *; omega)) :
    Stp P mu ops ⟨some d, .indexAddr t x i, ty, pos, after, none⟩ ⟨lk' fl, S'⟩ K := by
  refine stp_pure hT true (v := .c (.pim ((L.map fLf).getD j.toNat []))) (C := 0 ≤ j ∧ j < (L.map fLf).length) (by simp only [evP, evF, evP0, ht, hc, hx, hi]; try rfl) ⟨h.1, by rw [List.length_map]; omega⟩ ?_
  rw [map_getD fLf L j.toNat (some 0) [] (by omega)]; exact kk
theorem zp3 {t e : TypeId} {x : Operand} {as : Array Operand} {tys : Array TypeId} {L : List CP} (hT : TOk P T) (kk : K ⟨lk' ((d, ivl .i64 (L.length : Int)) :: fl), S'⟩)
    (ha : as.toList = [x] := by exact rfl) (hb : tys.toList = [t] := by exact rfl) (ht : undT T t = some (.slice e) := by exact rfl) (hx : opO fl x = some (cq L) := by exact rfl) :
    Stp P mu ops ⟨some d, .call ⟨.builtin .len, as, tys⟩, ty, pos, after, none⟩ ⟨lk' fl, S'⟩ K := by
  refine stp_pure hT true (v := ivl .i64 ((L.map zLf).length : Int)) (C := True) (by simp only [evP, evF, evP0, ha, hb, ht, hx, lenF]) trivial ?_
  rw [List.length_map]; exact kk
theorem zp3' {t e : TypeId} {x : Operand} {as : Array Operand} {tys : Array TypeId} {L : List (Option Nat)} (hT : TOk P T) (kk : K ⟨lk' ((d, ivl .i64 (L.length : Int)) :: fl), S'⟩)
    (ha : as.toList = [x] := by exact rfl) (hb : tys.toList = [t] := by exact rfl) (ht : undT T t = some (.slice e) := by exact rfl) (hx : opO fl x = some (fq L) := by exact rfl) :
    Stp P mu ops ⟨some d, .call ⟨.builtin .len, as, tys⟩, ty, pos, after, none⟩ ⟨lk' fl, S'⟩ K := by
  refine stp_pure hT true (v := ivl .i64 ((L.map fLf).length : Int)) (C := True) (by simp only [evP, evF, evP0, ha, hb, ht, hx, lenF]) trivial ?_
  rw [List.length_map]; exact kk

/-! ### Blocks of them -/
theorem cell_load (hT : TOk P T) {t ty' : TypeId} {x : Operand} {m : Nm} {off : Nat} {cs : List Cell} {y : Cell} (hx : opO fl x = some (.c (.ptr m off))) (ha : agT T t = some false) (hm : lkS sl m = some (.cells ty' cs)) (hy : cs[off]? = some y) (kk : K ⟨lk' ((d, .c y) :: fl), ov sl S⟩) :
    Stp P mu ops ⟨some d, .load t x, ty, pos, after, none⟩ ⟨lk' fl, ov sl S⟩ K := by
  refine stp_load hT hx ha hm (y := y) (C := True) ?_ trivial kk
  simp only [objO, hy]
theorem cell_store (hT : TOk P T) {t ty' : TypeId} {x y : Operand} {m : Nm} {off : Nat} {cs : List Cell} {c : Cell} (hx : opO fl x = some (.c (.ptr m off))) (hy : opO fl y = some (.c c)) (hc : celT T t = 1) (hm : lkS sl m = some (.cells ty' cs)) (h : off < cs.length) (hs : c.solid)
    (kk : K ⟨lk' fl, ov ((m, .cells ty' (cs.set off c)) :: sl) S⟩) : Stp P mu ops ⟨none, .store t x y, ty, pos, after, none⟩ ⟨lk' fl, ov sl S⟩ K := by
  refine ⟨⟨lk' fl, upd (ov sl S) m (.cells ty' (cs.set off c))⟩, ?_, by rw [upd_ov]; exact kk⟩
  have hc' := hT.cel hc (by decide)
  refine ⟨.c (.sc undef), _, ⟨?_, rfl⟩, rfl⟩
  rw [opO_look hx]
  refine .inl ⟨ty', cs, ov_of hm, ?_, by omega, ?_, ?_, ?_⟩
  · rw [opO_look hy]; exact hs
  · rw [opO_look hy]; exact hc'.symm
  · rw [opO_look hy]; exact h
  · rw [opO_look hy]; show _ = upd _ _ (AObj.cells ty' (spl cs off [c])); rw [spl_set cs off c h]

theorem zp4 {t ty' : TypeId} {x : Operand} {m : Nm} {off : Nat} {L : List CP} (hT : TOk P T) (kk : K ⟨lk' ((d, zv (L.getD off z0).1 (L.getD off z0).2) :: fl), ov sl S⟩)
    (hx : opO fl x = some (.c (.ptr m off)) := by exact rfl) (ha : agT T t = some false := by exact rfl) (hm : lkS sl m = some (.cells ty' (L.map zC)) := by exact lks) (h : off < L.length := by first | omega | (simp only [List.length_map, List.length_replicate, List.length_set, List.length_append, List.length_cons, List.length_nil, List.length_take, List.length_drop] at *; omega)) :
    Stp P mu ops ⟨some d, .load t x, ty, pos, after, none⟩ ⟨lk' fl, ov sl S⟩ K := cell_load hT hx ha hm (map_get? zC L off z0 h) kk
theorem zp4' {t ty' : TypeId} {x : Operand} {m : Nm} {off : Nat} {L : List (Option Nat)} (hT : TOk P T) (kk : K ⟨lk' ((d, fv (L.getD off (some 0))) :: fl), ov sl S⟩)
    (hx : opO fl x = some (.c (.ptr m off)) := by exact rfl) (ha : agT T t = some false := by exact rfl) (hm : lkS sl m = some (.cells ty' (L.map fC)) := by exact lks) (h : off < L.length := by first | omega | (simp only [List.length_map, List.length_replicate, List.length_set, List.length_append, List.length_cons, List.length_nil, List.length_take, List.length_drop] at *; omega)) :
    Stp P mu ops ⟨some d, .load t x, ty, pos, after, none⟩ ⟨lk' fl, ov sl S⟩ K := cell_load hT hx ha hm (map_get? fC L off (some 0) h) kk
theorem zp5 {t ty' : TypeId} {x y : Operand} {m : Nm} {off : Nat} {L : List CP} {a b : Option Nat} (hT : TOk P T) (kk : K ⟨lk' fl, ov ((m, .cells ty' ((L.set off (a, b)).map zC)) :: sl) S⟩)
    (hx : opO fl x = some (.c (.ptr m off)) := by exact rfl) (hy : opO fl y = some (zv a b) := by exact rfl) (hc : celT T t = 1 := by exact rfl) (hm : lkS sl m = some (.cells ty' (L.map zC)) := by exact lks) (h : off < L.length := by first | omega | (simp only [List.length_map, List.length_replicate, List.length_set, List.length_append, List.length_cons, List.length_nil, List.length_take, List.length_drop] at *; omega)) :
    Stp P mu ops ⟨none, .store t x y, ty, pos, after, none⟩ ⟨lk' fl, ov sl S⟩ K := by
  refine cell_store hT hx hy hc hm (by rw [List.length_map]; exact h) trivial ?_
  rw [List.map_set] at kk; exact kk
theorem zp5' {t ty' : TypeId} {x y : Operand} {m : Nm} {off : Nat} {L : List (Option Nat)} {a : Option Nat} (hT : TOk P T) (kk : K ⟨lk' fl, ov ((m, .cells ty' ((L.set off a).map fC)) :: sl) S⟩)
    (hx : opO fl x = some (.c (.ptr m off)) := by exact rfl) (hy : opO fl y = some (fv a) := by exact rfl) (hc : celT T t = 1 := by exact rfl) (hm : lkS sl m = some (.cells ty' (L.map fC)) := by exact lks) (h : off < L.length := by first | omega | (simp only [List.length_map, List.length_replicate, List.length_set, List.length_append, List.length_cons, List.length_nil, List.length_take, List.length_drop] at *; omega)) :
    Stp P mu ops ⟨none, .store t x y, ty, pos, after, none⟩ ⟨lk' fl, ov sl S⟩ K := by
  refine cell_store hT hx hy hc hm (by rw [List.length_map]; exact h) trivial ?_
  rw [List.map_set] at kk; exact kk

theorem make_cells (hT : TOk P T) {t e : TypeId} {l c : Operand} {n nb : Nat} {ka kb : IntKind} {z : Cell} (ht : undT T t = some (.slice e)) (hc1 : celT T e = 1) (hb8 : bytT T e = some nb) (hz : zerF T e = some [z]) (hl : opO fl l = some (ivl ka (n : Int))) (hc : opO fl c = some (ivl kb (n : Int))) (hf : freeO sl d = true)
    (hn : nb * n ≤ 281474976710656) (hn2 : n ≤ 9223372036854775807) (kk : K ⟨lk' ((d, .c (.win (.loc d) 0 n n)) :: fl), ov ((.loc d, .cells e (List.replicate n z)) :: sl) (pushS S)⟩) :
    Stp P mu ops ⟨some d, .makeSlice t l c, ty, pos, after, none⟩ ⟨lk' fl, ov sl (pushS S)⟩ K := by
  obtain ⟨h3, h4⟩ := zerF_spec hT hz
  have hce := hT.cel hc1 (by decide)
  refine ⟨⟨putF (lk' fl) (some d) (.c (.win (.loc d) 0 n n)), upd (ov sl (pushS S)) (.loc d) (.cells e (List.replicate n z))⟩, ?_, by rw [putF_lk, upd_ov]; exact kk⟩
  refine ⟨_, _, ⟨d, .cells e (List.replicate n z), rfl, freeO_spec hf, ?_, rfl⟩, rfl⟩
  refine ⟨e, [z], hT.und ht, by omega, h3, by rw [hce]; rfl, h4, ?_⟩
  rw [opO_look hl, opO_look hc]
  simp only
  refine ⟨by omega, Int.le_refl _, by rw [hT.byt hb8, ← Int.natCast_mul]; exact Int.ofNat_le.2 hn, Int.ofNat_le.2 hn2, .inl ⟨by rw [Int.toNat_natCast], .inl (by rw [Int.toNat_natCast, rep_one])⟩⟩
theorem zp6 {t e : TypeId} {l c : Operand} {n : Nat} {ka kb : IntKind} (hT : TOk P T) (kk : K ⟨lk' ((d, .c (.win (.loc d) 0 n n)) :: fl), ov ((.loc d, .cells e ((List.replicate n z0).map zC)) :: sl) (pushS S)⟩) (ht : undT T t = some (.slice e) := by exact rfl) (hc1 : celT T e = 1 := by exact rfl) (hb8 : bytT T e = some 16 := by exact rfl)
    (hz : zerF T e = some [zC z0] := by exact rfl) (hl : opO fl l = some (ivl ka (n : Int)) := by exact rfl) (hc : opO fl c = some (ivl kb (n : Int)) := by exact rfl) (hf : freeO sl d = true := by exact fro)
    (hn : n ≤ 17592186044416 := by first | omega | (simp only [List.length_map, List.length_replicate, List.length_set, List.length_append, List.length_cons, List.length_nil, List.length_take, List.length_drop] at *; omega)) :
    Stp P mu ops ⟨some d, .makeSlice t l c, ty, pos, after, none⟩ ⟨lk' fl, ov sl (pushS S)⟩ K :=
  make_cells hT ht hc1 hb8 hz hl hc hf (by omega) (by omega) (by rw [List.map_replicate] at kk; exact kk)
theorem zp6' {t e : TypeId} {l c : Operand} {n : Nat} {ka kb : IntKind} (hT : TOk P T) (kk : K ⟨lk' ((d, .c (.win (.loc d) 0 n n)) :: fl), ov ((.loc d, .cells e ((List.replicate n (some 0)).map fC)) :: sl) (pushS S)⟩) (ht : undT T t = some (.slice e) := by exact rfl) (hc1 : celT T e = 1 := by exact rfl) (hb8 : bytT T e = some 8 := by exact rfl)
    (hz : zerF T e = some [fC (some 0)] := by exact rfl) (hl : opO fl l = some (ivl ka (n : Int)) := by exact rfl) (hc : opO fl c = some (ivl kb (n : Int)) := by exact rfl) (hf : freeO sl d = true := by exact fro)
    (hn : n ≤ 35184372088832 := by first | omega | (simp only [List.length_map, List.length_replicate, List.length_set, List.length_append, List.length_cons, List.length_nil, List.length_take, List.length_drop] at *; omega)) :
    Stp P mu ops ⟨some d, .makeSlice t l c, ty, pos, after, none⟩ ⟨lk' fl, ov sl (pushS S)⟩ K :=
  make_cells hT ht hc1 hb8 hz hl hc hf (by omega) (by omega) (by rw [List.map_replicate] at kk; exact kk)

end

/-! ### Told anew -/
section
variable {A B : Store}
theorem cells_nmF {ty : TypeId} {L : List (Option Nat)} : (AObj.cells ty (L.map fC)).nm0 := fun x hx m h => by obtain ⟨p, -, rfl⟩ := List.mem_map.1 hx; exact h
theorem cells_nmZ {ty : TypeId} {L : List CP} : (AObj.cells ty (L.map zC)).nm0 := fun x hx m h => by obtain ⟨p, -, rfl⟩ := List.mem_map.1 hx; exact h
end

/-! ### NaNs handed in -/
section
variable {P : Program} {f : FuncId}
theorem AFun.le {args : List AVal} {res res' : AVal} (h : AFun P f args res) (hl : ALe res res') (h0 : nm0 res') : AFun P f args res' := by
  refine ⟨fun Φ n S h1 h2 h3 w ρ vs he hg hv => ?_, h0, h.args0⟩
  rcases h.calls Φ n S h1 h2 h3 w ρ vs he hg hv with ⟨hr, hc⟩ | ⟨v, hr, hv, hu⟩
  · refine .inl ⟨hr, hc.mono fun e w' ⟨ρ', v, e1, e2, e3, e4⟩ => ⟨ρ', v, e1, e2, e3, hl.held e4⟩⟩
  · exact .inr ⟨v, hr, hl.held hv, hu⟩
end

/-! ### A scope that is gone through without a jump -/
def scopeA (Q : Exit → St → Prop) : Exit → St → Prop
  | .goto _, _ => False
  | e, st => Q e st
section
variable {P : Program} {mu : FuncId → Bool} {N : Nat} {Q : Exit → St → Prop} {st : St}
theorem zr20 {c : Code} (h : awp P mu N c (scopeA Q) st) : awp P mu N (.scope c) Q st := fun hm hok B w ρ a hd hn hi => by
  refine wp_scope_straight (Code.wp_mono ?_ (h hm hok B w ρ a hd hn hi))
  rintro e a' w' ⟨h1, h2, st', ρ', h3, h4⟩
  cases e with
  | goto l => exact h4.elim
  | _ => exact ⟨h1, h2, st', ρ', h3, h4⟩
theorem zr21 {l : Nat} (h : Q .normal st) : awp P mu N (.label l) Q st := fun _ _ _ _ ρ _ hd hn hi => wp_label ⟨hd, hn, st, ρ, hi, h⟩
theorem zr22 (h : Q .normal st) : scopeA Q .normal st := h
theorem zr23 (h : Q .ret st) : scopeA Q .ret st := h
theorem zr24 {id : Nat} (h : Q (.exit id) st) : scopeA Q (.exit id) st := h
end
end Go.Abs

/-
  Regions that draw their order, in an order of one's own: loads out of blocks that no step writes may stand ahead of calls that write.
-/
namespace Go.Abs
open Go

def isLd (o : Oper) : Bool := match o.op with
  | .load _ (.tmp _) => true
  | _ => false
theorem isLd_spec {o : Oper} (h : isLd o = true) : ∃ t x, o.op = .load t (.tmp x) := by
  unfold isLd at h
  split at h
  · rename_i t x e; exact ⟨t, x, e⟩
  · cases h

section
variable {P : Program} {mu : FuncId → Bool} {ops : Array Oper} {Mn : List Nm} {S0 : Store}

def LdG (ops : Array Oper) (Mn : List Nm) (fr : Fram) (o : Oper) : Prop :=
  gd ops fr o = some false ∨ ∃ t x, o.op = .load t (.tmp x) ∧ ((∃ cs, fr x = .c (.pim cs)) ∨ ∃ n off, fr x = .c (.ptr n off) ∧ n ∈ Mn)

theorem LdG.res {fr : Fram} {o : Oper} {S S1 S' : Store} {v : AVal} (_ : isLd o = true) (h : LdG ops Mn fr o) (hk : ∀ n ∈ Mn, S' n = S n) (hr : aRes P mu ops o fr S v S1) : S1 = S ∧ aRes P mu ops o fr S' v S' := by
  rcases hr with ⟨g, he⟩ | ⟨g, rfl, rfl⟩
  · rcases h with h | ⟨t, x, e, hs⟩
    · rw [g] at h; cases h
    · unfold eff at he
      rw [e] at he
      simp only [look] at he
      obtain ⟨hld, rfl⟩ := he
      refine ⟨rfl, .inl ⟨g, ?_⟩⟩
      unfold eff
      rw [e]
      simp only [look]
      refine ⟨?_, trivial⟩
      rcases hs with ⟨cs, q⟩ | ⟨n, off, q, hm⟩
      · rw [q] at hld ⊢; exact hld
      · rw [q] at hld ⊢
        unfold loadE at hld ⊢
        simp only at hld ⊢
        rw [hk n hm]; exact hld
  · exact ⟨rfl, .inr ⟨g, rfl, rfl⟩⟩

theorem LdG.put {fr : Fram} {o : Oper} {d : Option Nat} {v : AVal} (h : LdG ops Mn fr o) (h1 : ∀ t, d = some t → t ∉ o.looksAt ops) : LdG ops Mn (putF fr d v) o := by
  rcases h with h | ⟨t, x, e, hs⟩
  · exact .inl (by rw [gd_put h1]; exact h)
  · have hx : putF fr d v x = fr x := look_put (fr := fr) (d := d) (v := v) (x := .tmp x) (fun t ht e' => h1 t ht (by
      injection e' with e'; subst e'
      exact List.mem_append_left _ (List.mem_filterMap.2 ⟨.tmp x, by rw [e]; simp [Op.operands], rfl⟩)))
    exact .inr ⟨t, x, e, by rw [hx]; exact hs⟩

theorem isLd_app {o : Oper} (h : isLd o = true) : ¬ isApp mu o := by
  obtain ⟨t, x, e⟩ := isLd_spec h
  unfold isApp; rw [e]; simp [kind]

theorem swapG {oi oj : Oper} {st st1 st2 : St} (hl : isLd oi = true) (h : LdG ops Mn st.fr oi) (hap : oi.apart ops oj = true) (nj : ¬ isApp mu oj) (hi : aStep P mu ops oi st st1) (hj : aStep P mu ops oj st1 st2) (hk : ∀ n ∈ Mn, st2.sg n = st1.sg n) :
    ∃ st1', aStep P mu ops oj st st1' ∧ aStep P mu ops oi st1' st2 ∧ st1'.sg = st2.sg := by
  obtain ⟨h1, h2, h3⟩ := Oper.apart_spec hap
  have ni : ¬ isApp mu oi := isLd_app hl
  obtain ⟨vi, S1, ri, rfl⟩ := (aStep_res ni).1 hi
  obtain ⟨vj, S2, rj, rfl⟩ := (aStep_res nj).1 hj
  rw [aRes_put h1] at rj
  obtain ⟨rfl, -⟩ := h.res hl (fun _ _ => rfl) ri
  obtain ⟨-, e2⟩ := h.res hl hk ri
  refine ⟨⟨putF st.fr oj.dst vj, S2⟩, (aStep_res nj).2 ⟨vj, S2, rj, rfl⟩, (aStep_res ni).2 ⟨vi, S2, (aRes_put h3).2 e2, ?_⟩, rfl⟩
  simp only [St.mk.injEq, and_true]
  exact putF_comm h2

theorem updL_keep {S : Store} {ups : List (Nm × AObj)} {n : Nm} (h : ∀ p ∈ ups, p.1 ≠ n) : updL S ups n = S n := by
  induction ups generalizing S with
  | nil => rfl
  | cons p ups ih =>
    simp only [updL]
    rw [ih (fun q hq => h q (List.mem_cons_of_mem _ hq))]
    exact upd_ne _ _ (Ne.symm (h p List.mem_cons_self))

theorem eff_keep {fr : Fram} {S S' : Store} {o : Oper} {v : AVal} (hk : kind mu o.op ≠ .write) (h : eff P mu fr S o v S') {n : Nm} (hn : S n ≠ none) : S' n = S n := by
  have new : ∀ {d : Nat} {ob : AObj}, S (.loc d) = none → upd S (.loc d) ob n = S n := fun hd => upd_ne _ _ (fun e => hn (by rw [e]; exact hd))
  obtain ⟨dst, op, ty, pos, after, guard⟩ := o
  cases op with
  | load t a => obtain ⟨-, rfl⟩ := h; rfl
  | store t a x => exact absurd rfl hk
  | alloc e => obtain ⟨d, ob, _, h2, _, rfl⟩ := h; exact new h2
  | box e x => obtain ⟨d, ob, _, h2, _, rfl⟩ := h; exact new h2
  | buildSlice t n ps => obtain ⟨d, ob, _, h2, _, rfl⟩ := h; exact new h2
  | makeSlice t l c => obtain ⟨d, ob, _, h2, _, rfl⟩ := h; exact new h2
  | call c =>
    obtain ⟨callee, args, tys⟩ := c
    cases callee with
    | value f =>
      obtain ⟨g, caps, as', Φ, res, ups, h1, h2, h3, h4, h5, rfl, rfl, h6, h7, -⟩ := h
      have hmu : mu g = false := by
        cases f with
        | func q =>
          have e : g = q := by simp only [look] at h1; injection h1 with h1 _; exact h1.symm
          subst e
          simp only [kind, kindC] at hk
          cases em : mu g with
          | false => rfl
          | true => rw [if_pos em] at hk; exact absurd rfl hk
        | _ => exact absurd rfl hk
      refine updL_keep fun p hp e => ?_
      rcases h6 p hp with q | ⟨i, q⟩ | ⟨q, -⟩
      · exact hn (by rw [← e, q]; exact h5.1)
      · exact hn (by rw [← e, q]; exact h5.2 i)
      · rw [hmu] at q; cases q
    | invoke rc m => obtain ⟨-, rfl⟩ := h; rfl
    | builtin b => obtain ⟨-, rfl⟩ := h; rfl
  | _ => obtain ⟨-, rfl⟩ := h; rfl

theorem aStep_keep {o : Oper} {st st' : St} (ha : ¬ isApp mu o) (hk : kind mu o.op ≠ .write) (h : aStep P mu ops o st st') {n : Nm} (hn : st.sg n ≠ none) : st'.sg n = st.sg n := by
  obtain ⟨v, S', hr, rfl⟩ := (aStep_res ha).1 h
  rcases hr with ⟨-, he⟩ | ⟨-, -, rfl⟩
  · exact eff_keep hk he hn
  · rfl
theorem aStep_dom {o : Oper} {st st' : St} (ha : ¬ isApp mu o) (h : aStep P mu ops o st st') {n : Nm} (hn : st.sg n ≠ none) : st'.sg n ≠ none := by
  obtain ⟨v, S', hr, rfl⟩ := (aStep_res ha).1 h
  exact aRes_dom hr hn

def inM (Mn : List Nm) (S0 : Store) (st : St) : Prop := ∀ n ∈ Mn, st.sg n = S0 n

def aAnyM (P : Program) (mu : FuncId → Bool) (ops : Array Oper) (Mn : List Nm) (S0 : Store) (Q : St → Prop) : Nat → Array Bool → St → Prop
  | 0, listed, st => inM Mn S0 st ∧ Region.ready .any ops listed = [] ∧ Q st
  | fuel + 1, listed, st => inM Mn S0 st ∧ (Region.ready .any ops listed = [] → Q st) ∧ ∀ i ∈ Region.ready .any ops listed, ∀ o, ops[i]? = some o → ∃ st', aStep P mu ops o st st' ∧ aAnyM P mu ops Mn S0 Q fuel (listed.setIfInBounds i true) st'
theorem aAnyM.any {Q : St → Prop} : ∀ {fuel : Nat} {listed : Array Bool} {st : St}, aAnyM P mu ops Mn S0 Q fuel listed st → aAny P mu ops Q fuel listed st
  | 0, _, _, h => h.2
  | _ + 1, _, _, h => ⟨h.2.1, fun i hi o ho => by obtain ⟨st', h1, h2⟩ := h.2.2 i hi o ho; exact ⟨st', h1, h2.any⟩⟩
theorem aAnyM.inM {Q : St → Prop} {fuel : Nat} {listed : Array Bool} {st : St} (h : aAnyM P mu ops Mn S0 Q fuel listed st) : inM Mn S0 st := by cases fuel <;> exact h.1

def LdP (mu : FuncId → Bool) (ops : Array Oper) (Mn : List Nm) (fr : Fram) (oi oj : Oper) : Prop := oi.apart ops oj = true ∧ isLd oi = true ∧ ¬ isApp mu oj ∧ LdG ops Mn fr oi

theorem aAnyM_first {Q : St → Prop} (hM0 : ∀ n ∈ Mn, S0 n ≠ none) {i : Nat} {oi : Oper} (hi : ops[i]? = some oi) (nai : ¬ isApp mu oi) : ∀ (fuel : Nat) (listed : Array Bool) (st st1 : St), WF st.fr st.sg → DC ops listed → inM Mn S0 st →
    (∀ j oj, ops[j]? = some oj → j ≠ i → listed.getD j true = false → Wt ops j i ∨ (oi.apart ops oj = true ∧ kOk (kind mu oi.op) (kind mu oj.op) = true) ∨ LdP mu ops Mn st.fr oi oj) →
    i ∈ Region.ready .any ops listed → aStep P mu ops oi st st1 → aAnyM P mu ops Mn S0 Q fuel (listed.setIfInBounds i true) st1 → aAnyM P mu ops Mn S0 Q (fuel + 1) listed st := by
  intro fuel
  induction fuel with
  | zero =>
    intro listed st st1 hw hdc hin hfree hr hs H
    refine ⟨hin, fun h => (by rw [h] at hr; cases hr), fun j hj oj hoj => ?_⟩
    by_cases hji : j = i
    · subst hji
      rw [hi] at hoj
      obtain rfl := Option.some.inj hoj
      exact ⟨st1, hs, H⟩
    · have := ready_mono hj hji
      rw [H.2.1] at this
      cases this
  | succ fuel ih =>
    intro listed st st1 hw hdc hin hfree hr hs H
    refine ⟨hin, fun h => (by rw [h] at hr; cases hr), fun j hj oj hoj => ?_⟩
    by_cases hji : j = i
    · subst hji
      rw [hi] at hoj
      obtain rfl := Option.some.inj hoj
      exact ⟨st1, hs, H⟩
    · obtain ⟨st1j, hsj, Hj⟩ := H.2.2 j (ready_mono hj hji) oj hoj
      obtain ⟨hjun, oj', hoj', hall⟩ := mem_ready.1 hj
      rw [hoj] at hoj'
      obtain rfl := Option.some.inj hoj'
      have hnw : ¬ Wt ops j i := fun hq => by
        have h1 := hq.listed hdc oj hoj hall
        have h0 := (mem_ready.1 hr).1
        rw [getD_true h1 true] at h0; cases h0
      have hc := (hfree j oj hoj hji hjun).resolve_left hnw
      have nj : ¬ isApp mu oj := by
        rcases hc with ⟨-, hkk⟩ | ⟨-, -, nj, -⟩
        · intro e; unfold isApp at e; rw [e] at hkk; cases hq : kind mu oi.op <;> rw [hq] at hkk <;> simp [kOk] at hkk
        · exact nj
      have hap : oi.apart ops oj = true := by rcases hc with ⟨hap, -⟩ | hls; exact hap; exact hls.1
      have hsw : ∃ stj, aStep P mu ops oj st stj ∧ aStep P mu ops oi stj st1j ∧ inM Mn S0 stj := by
        rcases hc with ⟨hap, hkk⟩ | ⟨hap, hl, -, hg⟩
        · obtain ⟨stj, a, b⟩ := swap hw hkk hap hs hsj
          refine ⟨stj, a, b, fun n hn => ?_⟩
          have h0 : st.sg n ≠ none := by rw [hin n hn]; exact hM0 n hn
          by_cases hkj : kind mu oj.op = .write
          · have hki : kind mu oi.op ≠ .write := fun e => by rw [e, hkj] at hkk; cases hkk
            rw [← Hj.inM n hn]
            exact (aStep_keep nai hki b (aStep_dom nj a h0)).symm
          · rw [aStep_keep nj hkj a h0]; exact hin n hn
        · obtain ⟨stj, a, b, c⟩ := swapG hl hg hap nj hs hsj (fun n hn => by rw [Hj.inM n hn, H.inM n hn])
          exact ⟨stj, a, b, fun n hn => by rw [c]; exact Hj.inM n hn⟩
      obtain ⟨stj, h1, h2, hinj⟩ := hsw
      refine ⟨stj, h1, ih (listed.setIfInBounds j true) stj st1j (aStep_WF nj h1 hw) (hdc.set hj) hinj (fun k ok hk hki hun => ?_) (ready_mono hr (Ne.symm hji)) h2 ?_⟩
      · have hk' := hfree k ok hk hki (by
          by_cases hjk : j = k
          · subst hjk; exact hjun
          · rw [getD_set_ne true hjk] at hun; exact hun)
        rcases hk' with q | q | ⟨q1, q2, q3, q4⟩
        · exact .inl q
        · exact .inr (.inl q)
        · refine .inr (.inr ⟨q1, q2, q3, ?_⟩)
          obtain ⟨vj, Sj, -, rfl⟩ := (aStep_res nj).1 h1
          exact q4.put (Oper.apart_spec hap).2.2
      · rw [Array.setIfInBounds_comm _ _ hji]
        exact Hj

def aOpsM (P : Program) (mu : FuncId → Bool) (ops : Array Oper) (Mn : List Nm) (S0 : Store) (lds : List Nat) : List Nat → (St → Prop) → St → Prop
  | [], Q, st => inM Mn S0 st ∧ Q st
  | i :: rest, Q, st => inM Mn S0 st ∧ ∃ o, ops[i]? = some o ∧ (lds.contains i = true → LdG ops Mn st.fr o) ∧ ∃ st', aStep P mu ops o st st' ∧ aOpsM P mu ops Mn S0 lds rest Q st'

def lexM (mu : FuncId → Bool) (ops : Array Oper) (ms : List Nat) (lds : List Nat) : List Nat → List Nat → Bool
  | _, [] => true
  | done, i :: rest => (match ops[i]? with
    | none => false
    | some oi => kind mu oi.op != .app && (oi.after.toList.all fun e => !Region.binds .any e || done.contains e.on) && !rest.contains i && !done.contains i &&
      rest.all fun j => (ms.getD j 0).testBit i || (match ops[j]? with
        | none => true
        | some oj => oi.apart ops oj && (kOk (kind mu oi.op) (kind mu oj.op) || (lds.contains i && isLd oi && kind mu oj.op != .app)))) && lexM mu ops ms lds (i :: done) rest
def permOK (mu : FuncId → Bool) (ops : Array Oper) (lds π : List Nat) : Bool :=
  Nat.beq π.length ops.size && (List.range ops.size).all (fun j => π.contains j) && π.all (fun j => Nat.blt j ops.size) && lexM mu ops (masks [] ops.toList) lds [] π

theorem aAnyM_perm {Q : St → Prop} (hM0 : ∀ n ∈ Mn, S0 n ≠ none) {lds : List Nat} : ∀ (rest done : List Nat) (listed : Array Bool) (st : St), lexM mu ops (masks [] ops.toList) lds done rest = true → WF st.fr st.sg → DC ops listed →
    (∀ j, listed.getD j true = false ↔ j ∈ rest) → (∀ j, listed.getD j false = true ↔ j ∈ done) → aOpsM P mu ops Mn S0 lds rest Q st → aAnyM P mu ops Mn S0 Q rest.length listed st
  | [], done, listed, st, _, hw, hdc, h1, h2, h => by
    refine ⟨h.1, ?_, h.2⟩
    cases hq : Region.ready .any ops listed with
    | nil => rfl
    | cons x xs =>
      have := (mem_ready.1 (show x ∈ Region.ready .any ops listed by rw [hq]; simp)).1
      exact absurd ((h1 x).1 this) List.not_mem_nil
  | k :: rest, done, listed, st, hB, hw, hdc, h1, h2, ⟨hin, o, h0, hld, st', hs, h⟩ => by
    simp only [lexM, Bool.and_eq_true] at hB
    obtain ⟨hBk, hB'⟩ := hB
    rw [h0] at hBk
    simp only [Bool.and_eq_true, bne_iff_ne, ne_eq, List.all_eq_true, Bool.or_eq_true, Bool.not_eq_true', List.contains_eq_mem, decide_eq_true_eq, decide_eq_false_iff_not] at hBk
    obtain ⟨⟨⟨⟨hna, hed⟩, hnr⟩, hnd⟩, hfr⟩ := hBk
    have hklt : k < ops.size := (Array.getElem?_eq_some_iff.1 h0).1
    have hr : k ∈ Region.ready .any ops listed := mem_ready.2 ⟨(h1 k).2 List.mem_cons_self, o, h0, fun e he hb => (h2 _).2 (by
      rcases hed e (by simpa using he) with q | q
      · rw [hb] at q; cases q
      · exact q)⟩
    have hsz := hdc.1
    have g1 : ∀ j, (listed.setIfInBounds k true).getD j true = false ↔ j ∈ rest := fun j => by
      by_cases e : k = j
      · subst e
        simp [Array.getD_eq_getD_getElem?, show k < listed.size by omega, hnr]
      · rw [getD_set_ne true e, h1 j, List.mem_cons]; exact ⟨fun h => h.resolve_left (fun q => e q.symm), .inr⟩
    have g2 : ∀ j, (listed.setIfInBounds k true).getD j false = true ↔ j ∈ k :: done := fun j => by
      by_cases e : k = j
      · subst e
        simp [Array.getD_eq_getD_getElem?, show k < listed.size by omega]
      · rw [getD_set_ne false e, h2 j, List.mem_cons]; exact ⟨.inr, fun h => h.resolve_left (fun q => e q.symm)⟩
    refine aAnyM_first hM0 h0 hna rest.length listed st st' hw hdc hin (fun j oj hoj hjk hun => ?_) hr hs
      (aAnyM_perm hM0 rest (k :: done) _ st' hB' (aStep_WF hna hs hw) (hdc.set hr) g1 g2 h)
    have hj : j ∈ rest := (List.mem_cons.1 ((h1 j).1 hun)).resolve_left hjk
    rcases hfr j hj with q | q
    · exact .inl (masks_spec ops.toList [] (by simp) (fun j i hq => by simp at hq) j k q)
    · rw [hoj] at q
      simp only [Bool.and_eq_true, Bool.or_eq_true, bne_iff_ne, ne_eq] at q
      obtain ⟨q1, q2 | ⟨⟨q2, q3⟩, q4⟩⟩ := q
      · exact .inr (.inl ⟨q1, q2⟩)
      · exact .inr (.inr ⟨q1, q3, q4, hld (by simpa using q2)⟩)

variable {N : Nat} {Q : Exit → St → Prop} {st : St}
theorem awp_perm {id : Nat} (Mn : List Nm) (lds π : List Nat) (hB : permOK mu ops lds π = true) (hM0 : ∀ n ∈ Mn, st.sg n ≠ none) (h : aOpsM P mu ops Mn st.sg lds π (Q .normal) st) : awp P mu N (.region id ops true) Q st := fun hm hok B w ρ a hd hn hi => by
  simp only [okC, Bool.and_eq_true, List.all_eq_true, Bool.or_eq_true, Bool.not_eq_true'] at hok
  have hb : ∀ o ∈ ops.toList, ∀ t, o.dst = some t → t < N := fun o ho t ht => by
    have := hok.1 o ho
    rw [ht] at this
    simpa using this
  refine wp_region_any hm ?_
  have hi' := hi.heap (w' := { w with drawn := w.drawn + 1 }) rfl rfl rfl rfl
  refine aAny_sound (mu := mu) (fun o ho => hb o (by simpa using ho)) _ _ st _ ρ a hd hn hi' ?_
  unfold permOK at hB
  simp only [Bool.and_eq_true, List.all_eq_true, List.mem_range, List.contains_eq_mem, decide_eq_true_eq] at hB
  obtain ⟨⟨⟨b1, b2⟩, b3⟩, b4⟩ := hB
  have b1 := Nat.eq_of_beq_eq_true b1
  have := aAnyM_perm (P := P) hM0 π [] (Array.replicate ops.size false) st b4 hi.sim.wf ⟨by simp, fun k o ho hk => by
    rcases Nat.lt_or_ge k ops.size with q | q
    · simp [Array.getD_eq_getD_getElem?, q] at hk
    · rw [Array.getElem?_eq_none q] at ho; cases ho⟩ (fun j => by
    rcases Nat.lt_or_ge j ops.size with q | q
    · simp [Array.getD_eq_getD_getElem?, q, b2 j q]
    · have hnj : j ∉ π := fun hj => by have := Nat.le_of_ble_eq_true (b3 j hj); omega
      simp [Array.getD_eq_getD_getElem?, Array.getElem?_eq_none (show (Array.replicate ops.size false).size ≤ j by simpa using q), hnj]) (fun j => by
    rcases Nat.lt_or_ge j ops.size with q | q
    · simp [Array.getD_eq_getD_getElem?, q]
    · simp [Array.getD_eq_getD_getElem?, Array.getElem?_eq_none (show (Array.replicate ops.size false).size ≤ j by simpa using q)]) h
  rw [b1] at this
  exact this.any
end

/-! ### By lists -/
section
variable {P : Program} {mu : FuncId → Bool} {ops : Array Oper} {Mn : List Nm} {lds : List Nat} {fl fl0 : FL} {sl sl0 : SL} {S : Store} {K : St → Prop}
theorem inM_nil {S0 : Store} {st : St} : inM [] S0 st := fun n hn => by cases hn
theorem inM_cons {n : Nm} {o : AObj} (h : inM Mn (ov sl0 S) ⟨lk' fl, ov sl S⟩) (h1 : lkS sl n = some o := by exact lks) (h2 : lkS sl0 n = some o := by exact lks) : inM (n :: Mn) (ov sl0 S) ⟨lk' fl, ov sl S⟩ := fun m hm => by
  rcases List.mem_cons.1 hm with rfl | hm
  · exact (ov_of h1).trans (ov_of h2).symm
  · exact h m hm
theorem zm1 {S0 : Store} {i : Nat} {rest : List Nat} {o : Oper} {st : St} (hin : inM Mn S0 st) (hl : lds.contains i = false) (ho : ops[i]? = some o) (h : Stp P mu ops o st (aOpsM P mu ops Mn S0 lds rest K)) : aOpsM P mu ops Mn S0 lds (i :: rest) K st :=
  ⟨hin, o, ho, fun e => (by rw [hl] at e; cases e), h⟩
theorem zm2 {S0 : Store} {i : Nat} {rest : List Nat} {o : Oper} {st : St} (hin : inM Mn S0 st) (hg : LdG ops Mn st.fr o) (ho : ops[i]? = some o) (h : Stp P mu ops o st (aOpsM P mu ops Mn S0 lds rest K)) : aOpsM P mu ops Mn S0 lds (i :: rest) K st :=
  ⟨hin, o, ho, fun _ => hg, h⟩
theorem ldg_pim {o : Oper} {t : TypeId} {x : Nat} {cs : List Leaf} (e : o.op = .load t (.tmp x)) (h : lkO fl x = some (.c (.pim cs))) : LdG ops Mn (lk' fl) o := .inr ⟨t, x, e, .inl ⟨cs, lkO_look h⟩⟩
theorem ldg_ptr {o : Oper} {t : TypeId} {x : Nat} {n : Nm} {off : Nat} (e : o.op = .load t (.tmp x)) (h : lkO fl x = some (.c (.ptr n off))) (hn : n ∈ Mn) : LdG ops Mn (lk' fl) o := .inr ⟨t, x, e, .inr ⟨n, off, lkO_look h, hn⟩⟩
theorem ldg_off {o : Oper} {j t : Nat} {want b : Bool} (e : o.guard = some (j, want)) (hg : (ops[j]?).bind (·.dst) = some t) (hb : lkO fl t = some (bvl b)) (hne : (b == want) = false) : LdG ops Mn (lk' fl) o := .inl (by unfold gd; rw [e]; simp only [yA, hg, lkO_look hb, hne])
theorem zm4 {S0 : Store} {i : Nat} {rest : List Nat} {o : Oper} {st : St} (h : Stp P mu ops o st (aOpsM P mu ops Mn S0 lds rest K)) (hl : lds.contains i = false := by exact rfl) (hin : inM Mn S0 st := by first | exact inM_nil | exact inM_cons inM_nil | exact inM_cons (inM_cons inM_nil) | exact inM_cons (inM_cons (inM_cons inM_nil))) (ho : ops[i]? = some o := by exact rfl) :
    aOpsM P mu ops Mn S0 lds (i :: rest) K st := zm1 hin hl ho h
theorem zm5 {S0 : Store} {i : Nat} {rest : List Nat} {o : Oper} {st : St} (h : Stp P mu ops o st (aOpsM P mu ops Mn S0 lds rest K)) (ho : ops[i]? = some o := by exact rfl) (hin : inM Mn S0 st := by first | exact inM_nil | exact inM_cons inM_nil | exact inM_cons (inM_cons inM_nil) | exact inM_cons (inM_cons (inM_cons inM_nil)))
    (hg : LdG ops Mn st.fr o := by first | exact ldg_pim rfl (by exact rfl) | exact ldg_ptr rfl (by exact rfl) (by simp) | exact ldg_off rfl (by exact rfl) (by exact rfl) rfl) : aOpsM P mu ops Mn S0 lds (i :: rest) K st := zm2 hin hg ho h
theorem zm6 {S0 : Store} {st : St} (h : K st) (hin : inM Mn S0 st := by first | exact inM_nil | exact inM_cons inM_nil | exact inM_cons (inM_cons inM_nil) | exact inM_cons (inM_cons (inM_cons inM_nil))) : aOpsM P mu ops Mn S0 lds [] K st := ⟨hin, h⟩
end
end Go.Abs

/-
  A struct with a pointer to a new block, handed out from a result cell.
-/
namespace Go.Abs
open Go

section
variable {P : Program} {mu : FuncId → Bool}

theorem Back.more {S S' : Store} {n l c : Nm} {ob o : AObj} (h : Back (fun m => if m.isNew n = true then l else .out m) (ov [(l, ob)] S) S') (hc : c.isOut = false) (hcl : c ≠ l) :
    Back (fun m => if m.isNew n = true then l else .out m) (ov [(l, ob), (c, o)] S) S' := by
  refine ⟨h.inj, fun m q hm => ?_, h.cl⟩
  have h1 := h.at_ m q hm
  have h2 : (if m.isNew n = true then l else Nm.out m) ≠ c := by
    split
    · exact fun e => hcl e.symm
    · intro e; rw [← e] at hc; cases hc
  revert h1 h2
  generalize (if m.isNew n = true then l else Nm.out m) = k
  intro h1 h2
  simp only [ov, lkS] at h1 ⊢
  by_cases g : k = l
  · subst g; simpa using h1
  · simp [g, h2] at h1 ⊢; exact h1
end
end Go.Abs

/-
  A pointer held against nil.
-/
namespace Go.Abs
open Go

section
variable {P : Program} {T : TT} {mu : FuncId → Bool} {N : Nat} {ops : Array Oper} {fl : FL} {S' : Store} {Q : Exit → St → Prop} {l : List Oper} {d : Nat} {ty : TypeId} {pos : String} {after : Array Edge}

theorem run_neq_nilp {t e : TypeId} (ht : P.underlying t = some (.pointer e)) (A : Addr) (w : World) : (Op.equal t (.pointer (some A)) (.pointer none)).run P w = .ok false w := by
  have : ∀ d, (Op.equalIn (d + 1) t (.pointer (some A)) (.pointer none)).run P w = .ok false w := fun d => by
    simp [Op.equalIn, run_underlying' ht]
  exact this 9999

theorem aw_ptrnil (hT : TOk P T) {x : Operand} {t t1 : TypeId} {e : TypeId} {cs : List Leaf} (h : aw P mu N ops Q l ⟨lk' ((d, bvl true) :: fl), S'⟩)
    (hu : undT T t = some (.pointer e) := by exact rfl) (hx : opO fl x = some (.c (.pim cs)) := by exact rfl) :
    aw P mu N ops Q (⟨some d, .binOp .neq t x (.const (.pointer none)) t1, ty, pos, after, none⟩ :: l) ⟨lk' fl, S'⟩ := by
  intro hb B w ρ a hd hn hi
  refine wpList_step fun K hK => ?_
  have hv := hi.sim.look x
  rw [opO_look hx] at hv
  obtain ⟨b, off, hv, -, -⟩ := hv
  simp only [Region.wanted, if_true]
  have go : K (a.put (some d) (.bool true)) w := by
    have hdl : ∀ t, some d = some t → t < a.tmps.size := fun t ht => by rw [hn]; exact hb _ List.mem_cons_self t ht
    have hs := hi.sim.put (d := some d) (v := bvl true) (u := .bool true) hi.sim.env (Ext.refl _ _ _) (lk' fl) (fun t => .inr ⟨rfl, fun _ hX => hX.elim⟩) hdl (rfl : Value.bool true = .bool true)
    rw [putF_lk] at hs
    exact hK _ _ (h (fun o ho => hb o (by simp [ho])) B w ρ _ (by rw [put_defers]; exact hd) (by rw [put_size]; exact hn) (hi.step hs (Ext.refl _ _ _) (fun _ h => h.elim)))
  have hrun : (execOp a.eval ⟨some d, .binOp .neq t x (.const (.pointer none)) t1, ty, pos, after, none⟩).run P w = .ok (.value (.bool true)) w := by
    have e1 : a.eval x = .pointer (some ⟨b, off, none⟩) := hv
    have e2 : a.eval (.const (.pointer none)) = .pointer none := rfl
    simp only [execOp, e1, e2]
    simp [eqGuard, binOp, run_neq_nilp (hT.und hu)]
  unfold Oper.wp
  rw [hrun]
  exact go
end
end Go.Abs

/-
  Lists of pointers with their families: what else is there is dropped.
-/
namespace Go.Abs
open Go

section
variable {P : Program} {mu : FuncId → Bool} {N : Nat} {Q : Exit → St → Prop} {st : St}
theorem awp_midN {c : Code} {id : Nat} (Mid : St → Prop) (h : awp P mu N c (blockA id (thenA Mid Q)) st) (hk : ∀ st, Mid st → Q .normal st) : awp P mu N c (blockA id Q) st :=
  awp_mono h fun e st' hh => by
    cases e with
    | normal => exact hk _ hh
    | exit i =>
      simp only [blockA] at hh ⊢
      split
      · rename_i e; rw [if_pos e] at hh; exact hk _ hh
      · rename_i e; rw [if_neg e] at hh; exact hh
    | _ => exact hh
end

theorem lvs3 {A B : Store} {x y x' y' x'' y'' : AVal} (h : LendV A B x y) (h' : LendV A B x' y') (h'' : LendV A B x'' y'') : LendVs A B [x, x', x''] [y, y', y''] := ⟨h, h', h'', trivial⟩

theorem lkS_skip {L r : SL} {q : Nm} (h : ∀ p ∈ L, p.1 ≠ q) : lkS (L ++ r) q = lkS r q := by
  rw [lkS_app, lkS_none h]

theorem Weak.grp {fl fl' : FL} {L : SL} {m : Nm} {ob : AObj} {g : Nat → Nm} {os : List AObj} {S : Store} (hS : ∀ n b, S n = some b → b.cl S) (hg : ∀ i j, g i = g j → i = j) (hgm : ∀ i, g i ≠ m)
    (hL : ∀ p ∈ L, p.1.isOut = false ∧ p.1 ≠ m ∧ ∀ i, p.1 ≠ g i) (hob : ∀ x ∈ ob.cls, ∀ q, x.at q → ∃ i, i < os.length ∧ q = g i) (hos : ∀ o ∈ os, o.nm0)
    (hf : FrzF (ov (L ++ (m, ob) :: famL g 0 os) (pushS S)) (ov ((m, ob) :: famL g 0 os) (pushS S)) fl fl') : Weak ⟨lk' fl, ov (L ++ (m, ob) :: famL g 0 os) (pushS S)⟩ ⟨lk' fl', ov ((m, ob) :: famL g 0 os) (pushS S)⟩ := by
  have hm : lkS (L ++ (m, ob) :: famL g 0 os) m = some ob := by rw [lkS_skip fun p hp => (hL p hp).2.1]; exact lkS_hd
  have hgi : ∀ {sl : SL} i, (∀ p ∈ sl, p.1 ≠ m ∧ ∀ i, p.1 ≠ g i) → lkS (sl ++ (m, ob) :: famL g 0 os) (g i) = os[i]? := fun {sl} i h => by
    rw [lkS_skip fun p hp => (h p hp).2 i]
    simp only [lkS, if_neg (hgm i)]
    exact lkS_fam hg os i
  refine frzO hS (fun q => ?_) (frz_grp (ov_of hm) (fun x hx q hq => ?_) fun i o ho => ⟨ov_of ?_, hos o (List.mem_of_getElem? ho)⟩) hf
  · rw [lkS_skip fun p hp e => ?_]
    have := (hL p hp).1
    rw [e] at this; cases this
  · obtain ⟨i, hi, rfl⟩ := hob x hx q hq
    refine ovNe (o := os[i]) ?_
    have := hgi (sl := []) i (by simp)
    rw [List.nil_append] at this
    rw [this, List.getElem?_eq_getElem hi]
  · rw [hgi i fun p hp => (hL p hp).2]; exact ho

theorem Weak.grpPut {fl fl' : FL} {L : SL} {m : Nm} {ob : AObj} {g : Nat → Nm} {os : List AObj} {S : Store} {j : Nat} {o : AObj} (hS : ∀ n b, S n = some b → b.cl S) (hg : ∀ i j, g i = g j → i = j) (hgm : ∀ i, g i ≠ m)
    (hL : ∀ p ∈ L, p.1.isOut = false ∧ p.1 ≠ m ∧ ∀ i, p.1 ≠ g i) (hj : j < os.length) (hob : ∀ x ∈ ob.cls, ∀ q, x.at q → ∃ i, i < os.length ∧ q = g i) (hos : ∀ o ∈ os, o.nm0) (ho : o.nm0)
    (hf : FrzF (ov (L ++ (m, ob) :: famL g 0 (os.set j o)) (pushS S)) (ov ((m, ob) :: famL g 0 (os.set j o)) (pushS S)) fl fl') :
    Weak ⟨lk' fl, ov ((g j, o) :: (L ++ (m, ob) :: famL g 0 os)) (pushS S)⟩ ⟨lk' fl', ov ((m, ob) :: famL g 0 (os.set j o)) (pushS S)⟩ := by
  have e : ov ((g j, o) :: (L ++ (m, ob) :: famL g 0 os)) (pushS S) = ov (L ++ (m, ob) :: famL g 0 (os.set j o)) (pushS S) := by
    have := fam_put hg (lits := L ++ [(m, ob)]) (fun i => lkS_none fun p hp => by
      rcases List.mem_append.1 hp with h | h
      · exact (hL p h).2.2 i
      · simp only [List.mem_singleton] at h; subst h; exact fun e => hgm i e.symm) hj o (pushS S)
    simpa only [List.append_assoc, List.cons_append, List.nil_append] using this
  rw [e]
  refine Weak.grp hS hg hgm hL (by rw [List.length_set]; exact hob) (fun q hq => ?_) hf
  rcases List.mem_or_eq_of_mem_set hq with h | rfl
  · exact hos q h
  · exact ho
end Go.Abs

/-
  A window held against nil.
-/
namespace Go.Abs
open Go

section
variable {P : Program} {T : TT} {mu : FuncId → Bool} {N : Nat} {ops : Array Oper} {fl : FL} {S' : Store} {Q : Exit → St → Prop} {l : List Oper} {d : Nat} {ty : TypeId} {pos : String} {after : Array Edge}
theorem aw_winnil (hT : TOk P T) {op : BinOp} {x : Operand} {t t1 : TypeId} {e : TypeId} {m : Nm} {off len cm : Nat} (neg : Bool) (hl : 0 < len) (h : aw P mu N ops Q l ⟨lk' ((d, bvl neg) :: fl), S'⟩)
    (hop : op = (if neg then .neq else .eql) := by exact rfl) (hu : undT T t = some (.slice e) := by exact rfl) (hx : opO fl x = some (.c (.win m off len cm)) := by exact rfl) :
    aw P mu N ops Q (⟨some d, .binOp op t x (.const (.slice none 0 0)) t1, ty, pos, after, none⟩ :: l) ⟨lk' fl, S'⟩ := by
  intro hb B w ρ a hd hn hi
  refine wpList_step fun K hK => ?_
  have hv := hi.sim.look x
  rw [opO_look hx] at hv
  obtain ⟨-, A, cap, hv, h1, h2, h3⟩ := hv
  obtain rfl := (h3 (by omega)).1
  simp only [Region.wanted, if_true]
  have go : K (a.put (some d) (.bool neg)) w := by
    have hdl : ∀ t, some d = some t → t < a.tmps.size := fun t ht => by rw [hn]; exact hb _ List.mem_cons_self t ht
    have hs := hi.sim.put (d := some d) (v := bvl neg) (u := .bool neg) hi.sim.env (Ext.refl _ _ _) (lk' fl) (fun t => .inr ⟨rfl, fun _ hX => hX.elim⟩) hdl (rfl : Value.bool neg = .bool neg)
    rw [putF_lk] at hs
    exact hK _ _ (h (fun o ho => hb o (by simp [ho])) B w ρ _ (by rw [put_defers]; exact hd) (by rw [put_size]; exact hn) (hi.step hs (Ext.refl _ _ _) (fun _ h => h.elim)))
  have hrun : (execOp a.eval ⟨some d, .binOp op t x (.const (.slice none 0 0)) t1, ty, pos, after, none⟩).run P w = .ok (.value (.bool neg)) w := by
    have e1 : a.eval x = .slice (some ⟨ρ m, off, none⟩) len cap := hv
    have e2 : a.eval (.const (.slice none 0 0)) = .slice none 0 0 := rfl
    subst hop
    cases neg
    · simp only [execOp, e1, e2, if_false, Bool.false_eq_true]
      simp [eqGuard, binOp, run_eq_nil (hT.und hu)]
    · simp only [execOp, e1, e2, if_true]
      simp [eqGuard, binOp, run_eq_nil (hT.und hu)]
  unfold Oper.wp
  rw [hrun]
  exact go
end
end Go.Abs

/-
  A block renamed; a closure told as it stands.
-/
namespace Go.Abs
open Go

theorem Weak.ren1 {fl fl' : FL} {q d : Nat} {ob : AObj} {S : Store} (h0 : ob.nm0) (hfl : RenF [] (.loc q) (.loc d) (.fam (.loc 1000)) fl fl') : Weak ⟨lk' fl, ov [(.loc q, ob)] (pushS S)⟩ ⟨lk' fl', ov [(.loc d, ob)] (pushS S)⟩ :=
  Weak.renG (A := [(.loc q, ob)]) (sl := []) (m0 := .loc q) (m1 := .loc d) (g0 := .fam (.loc 1000)) (g1 := .fam (.loc 1000)) (ob0 := ob) (ob1 := ob) (os := []) lkS_hd (fun i o h => by simp at h) (fun φ _ => AObj.map_nm0 h0)
    (fun x hx r hr => absurd hr (h0 x hx r)) (fam_inj _) (fun i e => by cases e) (fun i j hi => by simp at hi) (fun i hi => by simp at hi) rfl (fun _ => rfl)
    (fun m hm => by
      simp only [lkS] at hm
      split at hm
      · rename_i e; subst e; exact ⟨rfl, rfl⟩
      · exact absurd rfl hm) (fun n o h => by simp [lkS] at h) hfl

theorem kFnP {A B : Store} {m : Nm} {ty : TypeId} {f : FuncId} {v : Value} (hm : A m = some (.cells ty [.sc v])) (hb : B m = none) : FrzV A B (.fn f [.ptr m 0]) (.fn f [.pim [.sc v]]) :=
  .fn rfl fun i x y h1 h2 => by
    match i with
    | 0 =>
      simp only [List.getElem?_cons_zero, Option.some.injEq] at h1 h2
      subst h1; subst h2
      have := kP (A := A) (B := B) (m := m) (off := 0) (ls := [.sc v]) hm hb ⟨lS rfl, trivial⟩
      cases this with
      | c h => exact h
    | i + 1 => simp at h1

theorem kFn1 {A B : Store} {f : FuncId} {cs : List Leaf} : FrzV A B (.fn f [.pim cs]) (.fn f [.pim cs]) := kFn fun x hx m hm => by simp only [List.mem_singleton] at hx; subst hx; exact hm.elim

theorem set_build {r : List Int} {n i : Nat} (h : i < r.length) (hn : n = r.length) {x : Int} (hx : x = r.getD i 0) : (r.take i ++ List.replicate (n - i) 0).set i x = r.take (i + 1) ++ List.replicate (n - (i + 1)) 0 := by
  have e1 : n - i = (n - (i + 1)) + 1 := by omega
  have e2 : (r.take i).length = i := by simp; omega
  rw [e1, List.replicate_succ, List.set_append_right _ _ (by omega), e2, Nat.sub_self, List.set_cons_zero, List.take_add_one, List.getElem?_eq_getElem h, Option.toList_some, List.append_assoc, List.singleton_append, hx, List.getD_eq_getElem?_getD, List.getElem?_eq_getElem h]
  rfl
theorem skip_build {r : List Int} {n i : Nat} (h : i < r.length) (hn : n = r.length) (hx : r.getD i 0 = 0) : r.take i ++ List.replicate (n - i) 0 = r.take (i + 1) ++ List.replicate (n - (i + 1)) 0 := by
  have e1 : n - i = (n - (i + 1)) + 1 := by omega
  rw [e1, List.replicate_succ, List.take_add_one, List.getElem?_eq_getElem h, Option.toList_some, List.append_assoc, List.singleton_append]
  rw [List.getD_eq_getElem?_getD, List.getElem?_eq_getElem h] at hx
  rw [show r[i] = 0 from hx]
end Go.Abs

/-
  Families made in a list of a known length.
-/
namespace Go.Abs
open Go

theorem fFamM {A B : Store} {g : Nat → Nm} : ∀ {os : List AObj} {s : Nat}, (∀ j o, os[j]? = some o → ∃ o0, A (g (s + j)) = some o0 ∧ FrzO A B o0 o) → FrzS A B (famL g s os)
  | [], _, _ => trivial
  | o :: os, s, h => ⟨.inl (h 0 o rfl), fFamM (os := os) (s := s + 1) fun j o' hj => by
      obtain ⟨o0, h1, h2⟩ := h (j + 1) o' (by simpa using hj)
      rw [show s + (j + 1) = s + 1 + j by omega] at h1
      exact ⟨o0, h1, h2⟩⟩

theorem set_ptrs {g : Nat → Nm} {n i : Nat} {y : Cell} (h : i < n) (x : Cell) : (ptrsG g i ++ List.replicate (n - i) y).set i x = ptrsG g i ++ x :: List.replicate (n - (i + 1)) y := by
  rw [List.set_append_right _ _ (by rw [ptrsG_len]; omega), ptrsG_len, Nat.sub_self, show n - i = (n - (i + 1)) + 1 by omega, List.replicate_succ, List.set_cons_zero]

theorem mkFam {fl fl' : FL} {A : SL} {S : Store} {b q d i n : Nat} {ty : TypeId} {o : AObj} {v : Value}
    (h0 : lkS A (.loc b) = some (.cells ty (ptrsG (.fam (.loc q)) i ++ .ptr (.loc d) 0 :: List.replicate (n - (i + 1)) (.sc v)))) (hd : lkS A (.loc d) = some o) (ho : o.nm0) (hf : ∀ j, j < i → lkS A (.fam (.loc q) j) = some o) (hbd : b ≠ d)
    (hA : ∀ m, lkS A (.out m) = none) (hfl : RenF [] (.loc b) (.loc b) (.fam (.loc q)) fl fl') :
    Weak ⟨lk' fl, ov A (pushS S)⟩ ⟨lk' fl', ov ((.loc b, .cells ty (ptrsG (.fam (.loc q)) (i + 1) ++ List.replicate (n - (i + 1)) (.sc v))) :: famL (.fam (.loc q)) 0 (List.replicate (i + 1) o)) (pushS S)⟩ := by
  have e : List.replicate (i + 1) o = List.replicate i o ++ [o] := List.replicate_succ'
  rw [e]
  refine gathO0 (k := i) h0 hd ho (fun j o' hj => ?_) (by simp) hbd (fun φ h1 h2 => ?_) (fun x hx r hr => ?_) hA hfl
  · rw [List.getElem?_replicate] at hj
    split at hj
    · rename_i hji; obtain rfl := Option.some.inj hj; exact ⟨hf j hji, ho⟩
    · cases hj
  · show AObj.cells ty (List.map (fun x : Cell => x.map φ) (_ ++ _)) = _
    rw [List.map_append, ptrsG_map, List.map_replicate, ptrsG_succ, List.append_assoc, List.singleton_append, h2, ptrsG_congr h1]
    rfl
  · rcases List.mem_append.1 hx with h | h
    · obtain ⟨j, hj, rfl⟩ := ptrsG_mem h
      exact ⟨j, hj, hr.symm⟩
    · rw [(List.mem_replicate.1 h).2] at hr; exact hr.elim
end Go.Abs

/-
  Groups of blocks beside others; lists of pairs told as they stand.
-/
namespace Go.Abs
open Go

theorem FrzS_app {A B : Store} : ∀ {a b : SL}, FrzS A B a → FrzS A B b → FrzS A B (a ++ b)
  | [], _, _, h => h
  | _ :: _, _, h1, h2 => ⟨h1.1, FrzS_app h1.2 h2⟩

theorem Weak.grpA {fl fl' : FL} {A K : SL} {m : Nm} {ob : AObj} {g : Nat → Nm} {os : List AObj} {S : Store} (hS : ∀ n b, S n = some b → b.cl S) (hg : ∀ i j, g i = g j → i = j) (hgm : ∀ i, g i ≠ m) (hout : ∀ q, lkS A (.out q) = none)
    (hmo : m.isOut = false) (hgo : ∀ i, (g i).isOut = false) (hK : ∀ p ∈ K, lkS A p.1 = some p.2 ∧ p.2.nm0 ∧ p.1.isOut = false ∧ p.1 ≠ m ∧ ∀ i, p.1 ≠ g i) (hm : lkS A m = some ob) (hos : ∀ i o, os[i]? = some o → lkS A (g i) = some o ∧ o.nm0)
    (hob : ∀ x ∈ ob.cls, ∀ q, x.at q → ∃ i, i < os.length ∧ q = g i)
    (hf : FrzF (ov A (pushS S)) (ov (K ++ (m, ob) :: famL g 0 os) (pushS S)) fl fl') : Weak ⟨lk' fl, ov A (pushS S)⟩ ⟨lk' fl', ov (K ++ (m, ob) :: famL g 0 os) (pushS S)⟩ := by
  refine frzO hS (fun q => ?_) (FrzS_app ?_ (frz_grp (ov_of hm) (fun x hx q hq => ?_) fun i o ho => ⟨ov_of (hos i o ho).1, (hos i o ho).2⟩)) hf
  · rw [hout, lkS_skip fun p hp e => ?_]
    · simp only [lkS]
      rw [if_neg (fun e => by rw [← e] at hmo; cases hmo)]
      exact lkS_famN (fun i e => by have := hgo i; rw [← e] at this; cases this) _ _
    · have := (hK p hp).2.2.1
      rw [e] at this; cases this
  · have : ∀ {l : SL}, (∀ p ∈ l, lkS A p.1 = some p.2 ∧ p.2.nm0) → FrzS (ov A (pushS S)) (ov (K ++ (m, ob) :: famL g 0 os) (pushS S)) l := by
      intro l
      induction l with
      | nil => intro _; trivial
      | cons p l ih =>
        intro h
        exact ⟨.inl ⟨p.2, ov_of (h p List.mem_cons_self).1, FrzO.of_nm0 (h p List.mem_cons_self).2⟩, ih fun q hq => h q (List.mem_cons_of_mem _ hq)⟩
    exact this fun p hp => ⟨(hK p hp).1, (hK p hp).2.1⟩
  · obtain ⟨i, hi, rfl⟩ := hob x hx q hq
    refine ovNe (o := os[i]) ?_
    rw [lkS_skip fun p hp => (hK p hp).2.2.2.2 i]
    simp only [lkS, if_neg (hgm i)]
    rw [lkS_fam hg, List.getElem?_eq_getElem hi]

theorem Weak.grp1 {fl fl' : FL} {k0 m : Nm} {o0 ob : AObj} {g : Nat → Nm} {os : List AObj} {S : Store} (hS : ∀ n b, S n = some b → b.cl S) (hg : ∀ i j, g i = g j → i = j) (hgm : ∀ i, g i ≠ m) (hko : k0.isOut = false) (hmo : m.isOut = false) (hgo : ∀ i, (g i).isOut = false)
    (hk0 : o0.nm0) (hkm : k0 ≠ m) (hkg : ∀ i, k0 ≠ g i) (hos : ∀ o ∈ os, o.nm0) (hob : ∀ x ∈ ob.cls, ∀ q, x.at q → ∃ i, i < os.length ∧ q = g i)
    (hf : FrzF (ov ((k0, o0) :: (m, ob) :: famL g 0 os) (pushS S)) (ov ((k0, o0) :: (m, ob) :: famL g 0 os) (pushS S)) fl fl') : Weak ⟨lk' fl, ov ((k0, o0) :: (m, ob) :: famL g 0 os) (pushS S)⟩ ⟨lk' fl', ov ((k0, o0) :: (m, ob) :: famL g 0 os) (pushS S)⟩ := by
  have hno : ∀ {n : Nm}, n.isOut = false → ∀ q, Nm.out q ≠ n := fun h q e => by rw [← e] at h; cases h
  refine Weak.grpA (K := [(k0, o0)]) hS hg hgm (fun q => ?_) hmo hgo (fun p hp => ?_) ?_ (fun i o ho => ⟨?_, hos o (List.mem_of_getElem? ho)⟩) hob hf
  · simp only [lkS]
    rw [if_neg (hno hko q), if_neg (hno hmo q)]
    exact lkS_famN (fun i => hno (hgo i) q) _ _
  · simp only [List.mem_singleton] at hp
    subst hp
    exact ⟨lkS_hd, hk0, hko, hkm, hkg⟩
  · exact lkS_tl (Ne.symm hkm) lkS_hd
  · simp only [lkS]
    rw [if_neg (Ne.symm (hkg i)), if_neg (hgm i), lkS_fam hg]; exact ho

theorem kSeq2 {A B : Store} {m : Nm} {ty : TypeId} {a b c d : Cell} {a' b' c' d' : Leaf} {cm : Nat} (hm : A m = some (.cells ty [a, b, c, d])) (hb : B m = none) (h1 : FrzC0 A B a a'.cell) (h2 : FrzC0 A B b b'.cell) (h3 : FrzC0 A B c c'.cell) (h4 : FrzC0 A B d d'.cell) :
    FrzV A B (.c (.win m 0 2 cm)) (.c (.seq 2 [[a', b'], [c', d']])) := by
  refine .c (.base (.row (fun i j => ([a, b, c, d] : List Cell).getD (i * 2 + j) .junk) (ty := ty) (cs := [a, b, c, d]) (.inl hm) hb rfl (fun x hx => by simp only [List.mem_cons, List.not_mem_nil, or_false] at hx; rcases hx with rfl | rfl <;> rfl) (fun i x j l hi hj => ?_) fun i x j l hi hj => ?_))
  · match i, hi with
    | 0, hi =>
      simp only [List.getElem?_cons_zero, Option.some.injEq] at hi
      subst hi
      match j, hj with
      | 0, _ => rfl
      | 1, _ => rfl
      | j + 2, hj => simp at hj
    | 1, hi =>
      simp only [List.getElem?_cons_succ, List.getElem?_cons_zero, Option.some.injEq] at hi
      subst hi
      match j, hj with
      | 0, _ => rfl
      | 1, _ => rfl
      | j + 2, hj => simp at hj
    | i + 2, hi => simp at hi
  · match i, hi with
    | 0, hi =>
      simp only [List.getElem?_cons_zero, Option.some.injEq] at hi
      subst hi
      match j, hj with
      | 0, hj => simp only [List.getElem?_cons_zero, Option.some.injEq] at hj; subst hj; exact h1
      | 1, hj => simp only [List.getElem?_cons_succ, List.getElem?_cons_zero, Option.some.injEq] at hj; subst hj; exact h2
      | j + 2, hj => simp at hj
    | 1, hi =>
      simp only [List.getElem?_cons_succ, List.getElem?_cons_zero, Option.some.injEq] at hi
      subst hi
      match j, hj with
      | 0, hj => simp only [List.getElem?_cons_zero, Option.some.injEq] at hj; subst hj; exact h3
      | 1, hj => simp only [List.getElem?_cons_succ, List.getElem?_cons_zero, Option.some.injEq] at hj; subst hj; exact h4
      | j + 2, hj => simp at hj
    | i + 2, hi => simp at hi
end Go.Abs

/-
  Types told out of the tables.
-/
namespace Go.Abs
open Go

def isAggD : TypeDesc → Bool
  | .struct _ => true
  | .array _ _ => true
  | _ => false
def tiOf (t u : TypeInfo) : TI := ⟨u.desc, t.size, t.bytes, isAggD u.desc, match t.zero with | some z => z | none => .bool false⟩

def notNamed : TypeDesc → Bool
  | .named _ _ => false
  | _ => true

theorem info_of {P : Program} {t : TypeId} {i : TypeInfo} (h : P.types[t]? = some i) : P.info? t = some i := by
  have hlt := (Array.getElem?_eq_some_iff.1 h).1
  show Tables.info? _ _ = _
  unfold Tables.info?
  rw [if_pos hlt]; exact h

theorem tiOk1 {P : Program} {t : TypeId} {i u : TypeInfo} (hi : P.info? t = some i) (hu : P.underlying t = some u.desc) (hz : i.zero.isSome = true) : TIok P t (tiOf i u) := by
  refine ⟨hu, by simp [Program.cellsOf, hi, tiOf], by simp [Program.bytesOf, hi, tiOf], ?_, ?_⟩
  · simp only [aggT, hu, Option.map_some, tiOf, Option.some.injEq]
    cases u.desc <;> rfl
  · cases e : i.zero with
    | none => rw [e] at hz; cases hz
    | some z => simp [zeroOf, hi, tiOf, e]

theorem tiOk {P : Program} {t : TypeId} {i : TypeInfo} (h : P.types[t]? = some i) (hn : notNamed i.desc = true) (hz : i.zero.isSome = true) : TIok P t (tiOf i i) := by
  refine tiOk1 (info_of h) ?_ hz
  unfold Program.underlying
  rw [info_of h]
  obtain ⟨desc, _⟩ := i
  cases desc <;> first | rfl | cases hn

theorem tiOkN {P : Program} {t q : TypeId} {a : String} {i u : TypeInfo} (h : P.types[t]? = some i) (hn : i.desc = .named a q) (h2 : P.types[q]? = some u) (hz : i.zero.isSome = true) : TIok P t (tiOf i u) := by
  refine tiOk1 (info_of h) ?_ hz
  unfold Program.underlying
  rw [info_of h]
  obtain ⟨desc, _⟩ := i
  simp only at hn
  subst hn
  simp [info_of h2]
end Go.Abs
