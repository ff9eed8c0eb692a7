/-
  An abstract machine for this program, and contracts of its functions: part Maf (no statement by itself).
-/
import Derived.Test.YtdbjhcgogmfghaaDoorMae
set_option linter.unusedVariables false
set_option linter.unusedSimpArgs false
set_option linter.unnecessarySimpa false

/-
  Structs put together, closures made, slices held against nil.
-/
namespace Go.Abs
open Go

def placesT (T : TT) : List Field → Option (List (Nat × Nat))
  | [] => some []
  | f :: fs => match celT T f.type, placesT T fs with
    | n + 1, some r => some ((f.offset, n + 1) :: r)
    | _, _ => none

theorem under_info {P : Program} {t : TypeId} {d : TypeDesc} (h : P.underlying t = some d) : P.info? t ≠ none := by
  intro e; simp [Program.underlying, e] at h

theorem celT_info {P : Program} {T : TT} (hT : TOk P T) {t n : Nat} (h : celT T t = n + 1) : P.info? t ≠ none := by
  unfold celT at h
  split at h
  · rename_i i hi; exact under_info (hT.at hi).1
  · cases h

theorem placesT_spec {P : Program} {T : TT} (hT : TOk P T) : ∀ {fs : List Field} {pl : List (Nat × Nat)}, placesT T fs = some pl → fs.map (fun f => (f.offset, P.cellsOf f.type)) = pl ∧ ∀ f ∈ fs, P.info? f.type ≠ none
  | [], pl, h => by simp only [placesT, Option.some.injEq] at h; subst h; simp
  | f :: fs, pl, h => by
    simp only [placesT] at h
    split at h
    · rename_i n r h1 h2
      obtain ⟨h3, h4⟩ := placesT_spec hT h2
      simp only [Option.some.injEq] at h
      subst h
      refine ⟨by simp [h3, hT.cel h1 (by simp)], fun g hg => ?_⟩
      rcases List.mem_cons.1 hg with rfl | hg
      · exact celT_info hT h1
      · exact h4 g hg
    · cases h

def fillF (fl : FL) (pl : List (Nat × Nat)) : List Cell → List (Nat × Operand) → Option (List Cell)
  | cs, [] => some cs
  | cs, (i, x) :: r => match pl[i]?, opO fl x with
    | some (off, 1), some (.c y) => match solidF y, setL cs off y with
      | true, some cs' => fillF fl pl cs' r
      | _, _ => none
    | some (off, n), some (.agg ys) => match Nat.beq ys.length n, Nat.ble (off + n) cs.length with
      | true, true => fillF fl pl (spl cs off ys) r
      | _, _ => none
    | _, _ => none
theorem fillF_spec {fl : FL} {pl : List (Nat × Nat)} {place : Nat → Option (Nat × Nat)} (hp : ∀ i q, pl[i]? = some q → place i = some q) : ∀ {ps : List (Nat × Operand)} {cs out : List Cell}, fillF fl pl cs ps = some out → fillE place (look (lk' fl)) cs ps out
  | [], cs, out, h => by simp only [fillF, Option.some.injEq] at h; exact h.symm
  | (i, x) :: r, cs, out, h => by
    simp only [fillF] at h
    split at h
    · rename_i off y h1 h2
      split at h
      · rename_i cs' h3 h4
        obtain ⟨h5, rfl⟩ := setL_spec h4
        have ih := fillF_spec hp h
        exact ⟨off, 1, hp _ _ h1, by rw [opO_look h2]; exact solidF_spec h3, by rw [opO_look h2]; rfl, h5, by rw [opO_look h2]; exact ih⟩
      · cases h
    · rename_i off n ys h1 h2
      split at h
      · rename_i h3 h4
        have h3 := Nat.eq_of_beq_eq_true h3
        have h4 := Nat.le_of_ble_eq_true h4
        have ih := fillF_spec hp h
        exact ⟨off, n, hp _ _ h1, by rw [opO_look h2]; trivial, by rw [opO_look h2]; exact h3, h4, by rw [opO_look h2]; exact ih⟩
      · cases h
    · cases h

def capsF : List AVal → Option (List Cell)
  | [] => some []
  | .c y :: xs => match solidF y, capsF xs with
    | true, some r => some (y :: r)
    | _, _ => none
  | _ => none
theorem capsF_spec : ∀ {xs : List AVal} {cs : List Cell}, capsF xs = some cs → xs = cs.map .c ∧ ∀ y ∈ cs, y.solid
  | [], cs, h => by simp only [capsF, Option.some.injEq] at h; subst h; simp
  | .c y :: xs, cs, h => by
    simp only [capsF] at h
    split at h
    · rename_i r h1 h2
      obtain ⟨h3, h4⟩ := capsF_spec h2
      simp only [Option.some.injEq] at h
      subst h
      refine ⟨by simp [h3], fun z hz => ?_⟩
      rcases List.mem_cons.1 hz with rfl | hz
      · exact solidF_spec h1
      · exact h4 z hz
    · cases h
  | .agg _ :: _, _, h => by cases h
  | .fn _ _ :: _, _, h => by cases h
  | .accv _ _ :: _, _, h => by cases h
  | .accp _ _ :: _, _, h => by cases h
  | .tup _ :: _, _, h => by cases h

def splF : List Cell → Nat → List Cell → Option (List Cell)
  | [], 0, [] => some []
  | [], _, _ => none
  | c :: cs, 0, [] => match splF cs 0 [] with | some r => some (c :: r) | none => none
  | _ :: cs, 0, y :: ys => match splF cs 0 ys with | some r => some (y :: r) | none => none
  | c :: cs, n + 1, ys => match splF cs n ys with | some r => some (c :: r) | none => none
theorem splF_spec : ∀ {cs : List Cell} {n : Nat} {ys cs' : List Cell}, splF cs n ys = some cs' → spl cs n ys = cs' ∧ n + ys.length ≤ cs.length
  | [], 0, [], cs', h => by simp only [splF, Option.some.injEq] at h; subst h; simp [spl]
  | [], 0, y :: ys, cs', h => by simp [splF] at h
  | [], n + 1, ys, cs', h => by simp [splF] at h
  | c :: cs, 0, [], cs', h => by
    simp only [splF] at h
    split at h
    · rename_i r hr
      obtain ⟨h1, h2⟩ := splF_spec hr
      simp only [Option.some.injEq] at h
      subst h
      simp [spl] at h1 ⊢
      exact h1
    · cases h
  | c :: cs, 0, y :: ys, cs', h => by
    simp only [splF] at h
    split at h
    · rename_i r hr
      obtain ⟨h1, h2⟩ := splF_spec hr
      simp only [Option.some.injEq] at h
      subst h
      simp [spl] at h1 ⊢
      exact ⟨h1, by omega⟩
    · cases h
  | c :: cs, n + 1, ys, cs', h => by
    simp only [splF] at h
    split at h
    · rename_i r hr
      obtain ⟨h1, h2⟩ := splF_spec hr
      simp only [Option.some.injEq] at h
      subst h
      simp [spl, Nat.add_right_comm n 1] at h1 ⊢
      exact ⟨h1, by omega⟩
    · cases h

section
variable {P : Program} {T : TT} {mu : FuncId → Bool} {N : Nat} {ops : Array Oper} {fl : FL} {sl : SL} {S S' : Store} {K : St → Prop} {Q : Exit → St → Prop} {l : List Oper}
  {d : Nat} {ty : TypeId} {pos : String} {after : Array Edge}

theorem zg16 {t : TypeId} {ps : Array (Nat × Operand)} {fs : Array Field} {pl : List (Nat × Nat)} {z out : List Cell} (hT : TOk P T) (k : K ⟨lk' ((d, .agg out) :: fl), S'⟩) (hu : undT T t = some (.struct fs) := by exact rfl) (hp : placesT T fs.toList = some pl := by exact rfl)
    (hz : zerF T t = some z := by exact rfl) (hf : fillF fl pl z ps.toList = some out := by exact rfl) :
    Stp P mu ops ⟨some d, .build t ps, ty, pos, after, none⟩ ⟨lk' fl, S'⟩ K := by
  obtain ⟨h1, h2⟩ := placesT_spec hT hp
  obtain ⟨h3, h4⟩ := zerF_spec hT hz
  refine ⟨_, ⟨.agg out, S', ⟨?_, rfl⟩, rfl⟩, by rw [putF_lk]; exact k⟩
  refine .inl ⟨fs, z, out, hT.und hu, fun f hf => h2 f (by simpa using hf), h3, h4, fillF_spec (fun i q hq => ?_) hf, rfl⟩
  rw [← h1] at hq
  simpa [placesOf] using hq

theorem zg17 {g : FuncId} {cap : Array Operand} {xs : List AVal} {cs : List Cell} (_ : TOk P T) (k : K ⟨lk' ((d, .fn g cs) :: fl), S'⟩) (hx : opsO fl cap.toList = some xs := by exact rfl) (hc : capsF xs = some cs := by exact rfl) :
    Stp P mu ops ⟨some d, .makeFunc (.func g) #[] cap, ty, pos, after, none⟩ ⟨lk' fl, S'⟩ K := by
  obtain ⟨h1, h2⟩ := capsF_spec hc
  exact ⟨_, ⟨.fn g cs, S', ⟨.inl ⟨rfl, cs, by rw [opsO_look hx, h1], h2, rfl⟩, rfl⟩, rfl⟩, by rw [putF_lk]; exact k⟩

theorem zg18 {e : TypeId} {x : Operand} {ys : List Cell} (_ : TOk P T) (k : K ⟨lk' ((d, .c (.ptr (.loc d) 0)) :: fl), ov ((.loc d, .cells e ys) :: sl) (pushS S)⟩) (hx : opO fl x = some (.agg ys) := by exact rfl) (hf : freeO sl d = true := by exact fro) :
    Stp P mu ops ⟨some d, .box e x, ty, pos, after, none⟩ ⟨lk' fl, ov sl (pushS S)⟩ K :=
  ⟨_, ⟨_, _, ⟨d, .cells e ys, rfl, freeO_spec hf, ⟨by rw [opO_look hx]; trivial, rfl, by rw [opO_look hx]; rfl⟩, rfl⟩, rfl⟩, by rw [putF_lk, upd_ov]; exact k⟩

theorem zg19 {e : TypeId} {x : Operand} {y : Cell} (_ : TOk P T) (k : K ⟨lk' ((d, .c (.ptr (.loc d) 0)) :: fl), ov ((.loc d, .cells e [y]) :: sl) (pushS S)⟩) (hx : opO fl x = some (.c y) := by exact rfl) (hs : solidF y = true := by exact rfl) (hf : freeO sl d = true := by exact fro) :
    Stp P mu ops ⟨some d, .box e x, ty, pos, after, none⟩ ⟨lk' fl, ov sl (pushS S)⟩ K := stp_box hx hs hf k

theorem zg20 {t : TypeId} {x : Operand} {m : Nm} {off n : Nat} {ty' : TypeId} {cs : List Cell} (hT : TOk P T) (k : K ⟨lk' ((d, .agg ((cs.drop off).take (n + 1))) :: fl), ov sl S⟩) (hx : opO fl x = some (.c (.ptr m off)) := by exact rfl) (ha : agT T t = some true := by exact rfl) (hn : celT T t = n + 1 := by exact rfl)
    (hm : lkS sl m = some (.cells ty' cs) := by exact lks) (hl : Nat.ble (off + (n + 1)) cs.length = true := by exact rfl) : Stp P mu ops ⟨some d, .load t x, ty, pos, after, none⟩ ⟨lk' fl, ov sl S⟩ K :=
  stp_loada hT hx ha hn hm (Nat.le_of_ble_eq_true hl) k

theorem zg21 {t : TypeId} {x : Operand} {cs : List Leaf} {n : Nat} (hT : TOk P T) (k : K ⟨lk' ((d, .agg ((cs.take (n + 1)).map Leaf.cell)) :: fl), S'⟩) (hx : opO fl x = some (.c (.pim cs)) := by exact rfl) (ha : agT T t = some true := by exact rfl) (hn : celT T t = n + 1 := by exact rfl) (hl : Nat.ble (n + 1) cs.length = true := by exact rfl) :
    Stp P mu ops ⟨some d, .load t x, ty, pos, after, none⟩ ⟨lk' fl, S'⟩ K := stp_loadpa hT hx ha hn (Nat.le_of_ble_eq_true hl) k

theorem zg22 {t : TypeId} {x y : Operand} {m : Nm} {off n : Nat} {ty' : TypeId} {cs ys cs' : List Cell} (hT : TOk P T) (k : K ⟨lk' fl, ov ((m, .cells ty' cs') :: sl) S⟩) (hx : opO fl x = some (.c (.ptr m off)) := by exact rfl) (hy : opO fl y = some (.agg ys) := by exact rfl) (hn : celT T t = n + 1 := by exact rfl)
    (hm : lkS sl m = some (.cells ty' cs) := by exact lks) (h1 : Nat.beq ys.length (n + 1) = true := by exact rfl) (h2 : splF cs off ys = some cs' := by exact rfl) : Stp P mu ops ⟨none, .store t x y, ty, pos, after, none⟩ ⟨lk' fl, ov sl S⟩ K := by
  obtain ⟨rfl, h3⟩ := splF_spec h2
  exact stp_store (o' := .cells ty' (spl cs off ys)) (C := ys.length = n + 1 ∧ off + ys.length ≤ cs.length) hT hx hy hm (by simp only [putO, hn]) ⟨Nat.eq_of_beq_eq_true h1, h3⟩ k

theorem s_intsA {t e : TypeId} {n : Nat} {ps : Array (Nat × Operand)} {k : IntKind} {L : List Int} (hT : TOk P T) (kk : K ⟨lk' ((d, .accv (.loc d) n) :: fl), ov ((.loc d, .accI e k L) :: sl) (pushS S)⟩)
    (hp : intsPart fl ps.toList 0 = some (k, L) ∨ (ps.toList = [] ∧ L = []) := by first | exact .inl rfl | exact .inr ⟨rfl, rfl⟩) (ht : undT T t = some (.slice e) := by exact rfl) (hc1 : celT T e = 1 := by exact rfl) (hz : zerF T e = some [.sc (.int k 0)] := by exact rfl)
    (hn : Nat.beq ps.toList.length n = true := by exact rfl) (hsmall : Nat.ble n 1000 = true := by exact rfl) (hf : freeO sl d = true := by exact fro) :
    Stp P mu ops ⟨some d, .buildSlice t n ps, ty, pos, after, none⟩ ⟨lk' fl, ov sl (pushS S)⟩ K := stp_intsA hT ht hc1 hz hp hn hsmall hf kk

theorem s_makeA {t e : TypeId} {l c : Operand} {a b : Int} {ka kb k : IntKind} {nb : Nat} (hT : TOk P T) (hab : a = b) (hb : 0 ≤ a ∧ (nb : Int) * b ≤ 281474976710656 ∧ b ≤ 9223372036854775807) (kk : K ⟨lk' ((d, .accv (.loc d) b.toNat) :: fl), ov ((.loc d, .accI e k (List.replicate b.toNat 0)) :: sl) (pushS S)⟩)
    (ht : undT T t = some (.slice e) := by exact rfl) (hc1 : celT T e = 1 := by exact rfl) (hb8 : bytT T e = some nb := by exact rfl) (hz : zerF T e = some [.sc (.int k 0)] := by exact rfl)
    (hl : opO fl l = some (ivl ka a) := by exact rfl) (hc : opO fl c = some (ivl kb b) := by exact rfl) (hf : freeO sl d = true := by exact fro) :
    Stp P mu ops ⟨some d, .makeSlice t l c, ty, pos, after, none⟩ ⟨lk' fl, ov sl (pushS S)⟩ K := stp_makeA hT ht hc1 hb8 hz hl hc hf hab hb kk

theorem run_eq_nil {t e : TypeId} (ht : P.underlying t = some (.slice e)) (A : Option Addr) (n c : Nat) (w : World) : (Op.equal t (.slice A n c) (.slice none 0 0)).run P w = .ok A.isNone w := by
  have : ∀ d, (Op.equalIn (d + 1) t (.slice A n c) (.slice none 0 0)).run P w = .ok A.isNone w := fun d => by
    cases A <;> simp [Op.equalIn, run_underlying' ht]
  exact this 9999

theorem aw_isnil (hT : TOk P T) {op : BinOp} {x : Operand} {t t1 : TypeId} {e : TypeId} {k : IntKind} {L : List Int} (neg : Bool) (h1 : L = [] → aw P mu N ops Q l ⟨lk' ((d, bvl (!neg)) :: fl), S'⟩) (h2 : aw P mu N ops Q l ⟨lk' ((d, bvl neg) :: fl), S'⟩)
    (hop : op = (if neg then .neq else .eql) := by exact rfl) (hu : undT T t = some (.slice e) := by exact rfl) (hx : opO fl x = some (.c (.ints k L)) := by exact rfl) :
    aw P mu N ops Q (⟨some d, .binOp op t x (.const (.slice none 0 0)) t1, ty, pos, after, none⟩ :: l) ⟨lk' fl, S'⟩ := by
  intro hb B w ρ a hd hn hi
  refine wpList_step fun K hK => ?_
  have hv := hi.sim.look x
  rw [opO_look hx] at hv
  obtain ⟨A, cap, hv, -, -, hv3⟩ := hv
  simp only [Region.wanted, if_true]
  have go : ∀ b : Bool, aw P mu N ops Q l ⟨lk' ((d, bvl b) :: fl), S'⟩ → K (a.put (some d) (.bool b)) w := fun b h => by
    have hdl : ∀ t, some d = some t → t < a.tmps.size := fun t ht => by rw [hn]; exact hb _ List.mem_cons_self t ht
    have hs := hi.sim.put (d := some d) (v := bvl b) (u := .bool b) hi.sim.env (Ext.refl _ _ _) (lk' fl) (fun t => .inr ⟨rfl, fun _ hX => hX.elim⟩) hdl (rfl : Value.bool b = .bool b)
    rw [putF_lk] at hs
    exact hK _ _ (h (fun o ho => hb o (by simp [ho])) B w ρ _ (by rw [put_defers]; exact hd) (by rw [put_size]; exact hn) (hi.step hs (Ext.refl _ _ _) (fun _ h => h.elim)))
  have hrun : (execOp a.eval ⟨some d, .binOp op t x (.const (.slice none 0 0)) t1, ty, pos, after, none⟩).run P w = .ok (.value (.bool (A.isNone != neg))) w := by
    have e1 : a.eval x = .slice A L.length cap := hv
    have e2 : a.eval (.const (.slice none 0 0)) = .slice none 0 0 := rfl
    subst hop
    cases neg
    · simp only [execOp, e1, e2, if_false, Bool.false_eq_true]
      simp [eqGuard, binOp, run_eq_nil (hT.und hu)]
    · simp only [execOp, e1, e2, if_true]
      simp [eqGuard, binOp, run_eq_nil (hT.und hu)]
  unfold Oper.wp
  rw [hrun]
  cases A with
  | none =>
    have hL : L = [] := by
      cases L with
      | nil => rfl
      | cons y ys => obtain ⟨b, off, q, -⟩ := hv3 (by simp); cases q
    have := go (!neg) (h1 hL)
    cases neg <;> exact this
  | some A =>
    have := go neg h2
    cases neg <;> exact this
end
end Go.Abs

/-
  States told anew where what was handed in has been written.
-/
namespace Go.Abs
open Go

theorem outsL_nil_lk {sl : SL} (h : outsL sl = []) (m : Nm) : lkS sl (.out m) = none := by rw [← outsL_lk, h]; rfl

theorem FrzO.of_nm0 {A B : Store} {o : AObj} (h : o.nm0) : FrzO A B o o := by
  exact .keep fun x hx m hm => absurd hm (h x hx m)

section
variable {P : Program} {mu : FuncId → Bool}
variable {fl fl' : FL} {sl sl' : SL} {S : Store}

theorem frzO (hS : ∀ n b, S n = some b → b.cl S) (hout : ∀ m, lkS sl' (.out m) = lkS sl (.out m)) (hs : FrzS (ov sl (pushS S)) (ov sl' (pushS S)) sl') (hf : FrzF (ov sl (pushS S)) (ov sl' (pushS S)) fl fl') :
    Weak ⟨lk' fl, ov sl (pushS S)⟩ ⟨lk' fl', ov sl' (pushS S)⟩ := by
  refine Weak.frz (fun m o' hm => ?_) (fun m => ?_) (fun t => ?_)
  · simp only [ov] at hm
    split at hm
    · rename_i o1 h1
      obtain rfl := Option.some.inj hm
      exact hs.at m _ h1
    · rename_i h1
      obtain ⟨q, b, rfl, hb, rfl⟩ := pushS_some hm
      refine .inl ⟨b.map .out, by simp only [ov]; rw [← hout, h1]; exact hm, .keep fun x hx m hm' => ?_⟩
      have hcl := (AObj.cl_cls (S := S)).1 (hS q _ hb)
      obtain ⟨z, hz, rfl⟩ := cls_map hx
      obtain ⟨n, hn, rfl⟩ := Cell.map_at hm'
      have := hcl z hz n hn
      simp only [ov]
      split
      · simp
      · simp only [pushS]
        cases e : S n with
        | none => exact absurd e this
        | some z => simp
  · simp only [ov, hout]
  · show (lk' fl' t) = _ ∨ _
    simp only [lk']
    cases e : lkO fl' t with
    | none => exact .inl rfl
    | some v =>
      obtain ⟨u, h1, h2⟩ := hf.at t v e
      rw [h1]
      exact .inr h2

theorem frz1 {z : Nm} {o o' : AObj} {sl'' : SL} (hS : ∀ n b, S n = some b → b.cl S) (hm : lkS sl (.out z) = some o) (hn : o'.nm0) (h1 : ∀ m, m ≠ z → lkS sl (.out m) = none) (h2 : outsL sl'' = []) (e : o = o')
    (hs : FrzS (ov sl (pushS S)) (ov ((.out z, o') :: sl'') (pushS S)) sl'') (hf : FrzF (ov sl (pushS S)) (ov ((.out z, o') :: sl'') (pushS S)) fl fl') :
    Weak ⟨lk' fl, ov sl (pushS S)⟩ ⟨lk' fl', ov ((.out z, o') :: sl'') (pushS S)⟩ := by
  subst e
  refine frzO hS (fun m => ?_) ⟨.inl ⟨o, ov_of hm, .of_nm0 hn⟩, hs⟩ hf
  by_cases q : m = z
  · subst q; rw [hm]; simp [lkS]
  · rw [h1 m q]; simp [lkS, q, outsL_nil_lk h2]

theorem frz2 {z y : Nm} {o o' p p' : AObj} {sl'' : SL} (hS : ∀ n b, S n = some b → b.cl S) (hzy : z ≠ y) (hm : lkS sl (.out z) = some o) (hp : lkS sl (.out y) = some p) (hn : o'.nm0) (hn' : p'.nm0) (h1 : ∀ m, m ≠ z → m ≠ y → lkS sl (.out m) = none) (h2 : outsL sl'' = []) (e : o = o') (e' : p = p')
    (hs : FrzS (ov sl (pushS S)) (ov ((.out z, o') :: (.out y, p') :: sl'') (pushS S)) sl'') (hf : FrzF (ov sl (pushS S)) (ov ((.out z, o') :: (.out y, p') :: sl'') (pushS S)) fl fl') :
    Weak ⟨lk' fl, ov sl (pushS S)⟩ ⟨lk' fl', ov ((.out z, o') :: (.out y, p') :: sl'') (pushS S)⟩ := by
  subst e; subst e'
  refine frzO hS (fun m => ?_) ⟨.inl ⟨o, ov_of hm, .of_nm0 hn⟩, .inl ⟨p, ov_of hp, .of_nm0 hn'⟩, hs⟩ hf
  by_cases q : m = z
  · subst q; rw [hm]; simp [lkS]
  · by_cases q2 : m = y
    · subst q2; rw [hp]; simp [lkS, q]
    · rw [h1 m q q2]; simp [lkS, q, q2, outsL_nil_lk h2]

theorem endP1 {T : TT} (hT : TOk P T) {fn : Func} {z : Nm} {o o' : AObj} {res : AVal} {e : Exit} {vs : List AVal} (he : e = .normal ∨ e = .ret) (hS : ∀ n b, S n = some b → b.cl S) (hm : lkS sl (.out z) = some o) (hn : o'.nm0) (h1 : ∀ m, m ≠ z → lkS sl (.out m) = none) (eo : o = o')
    (hf : FrzF (ov sl (pushS S)) (ov [(.out z, o')] (pushS S)) fl fl') (hr : resL T fl' fn.results.toList = some vs) (hfl : flatL vs = true) (hv : oneR vs = res.map .out) : EndP P fn S [(z, o')] res e ⟨lk' fl, ov sl (pushS S)⟩ :=
  ⟨he, T, fl', vs, hT, frz1 (sl'' := []) hS hm hn h1 rfl eo trivial hf, hr, hfl, hv⟩

theorem endP2 {T : TT} (hT : TOk P T) {fn : Func} {z y : Nm} {o o' p p' : AObj} {res : AVal} {e : Exit} {vs : List AVal} (he : e = .normal ∨ e = .ret) (hS : ∀ n b, S n = some b → b.cl S) (hzy : z ≠ y) (hm : lkS sl (.out z) = some o) (hp : lkS sl (.out y) = some p) (hn : o'.nm0) (hn' : p'.nm0) (h1 : ∀ m, m ≠ z → m ≠ y → lkS sl (.out m) = none) (eo : o = o') (ep : p = p')
    (hf : FrzF (ov sl (pushS S)) (ov [(.out z, o'), (.out y, p')] (pushS S)) fl fl') (hr : resL T fl' fn.results.toList = some vs) (hfl : flatL vs = true) (hv : oneR vs = res.map .out) : EndP P fn S [(z, o'), (y, p')] res e ⟨lk' fl, ov sl (pushS S)⟩ :=
  ⟨he, T, fl', vs, hT, frz2 (sl'' := []) hS hzy hm hp hn hn' h1 rfl eo ep trivial hf, hr, hfl, hv⟩

theorem cells_nm0 {ty : TypeId} {ls : List Leaf} : (AObj.cells ty (ls.map Leaf.cell)).nm0 := fun _ hx m => leaves_nm0 hx m
theorem ints_nm0 {ty : TypeId} {k : IntKind} {L : List Int} : (AObj.ints ty k L).nm0 := fun x hx => absurd hx List.not_mem_nil

theorem aproc1 {f : FuncId} {fn : Func} {c : Code} {args : List AVal} {z : Nm} {o o' : AObj} {res : AVal} (hf : P.funcs[f]? = some fn) (hb : fn.body = some c) (hname : (fn.name == "runtime.NumGoroutine") = false)
    (hm : P.follows .mixedOrders = true) (hok : okC fn.ntmps mu c = true) (hl : args.length ≤ fn.ntmps) (hA : ∀ q x, x ∈ args → x.at q → q = z) (hz : ∃ x ∈ args, x.at z) (hR : ∀ q, res.at q → q = z)
    (hn : o.nm0) (hn' : o'.nm0)
    (h : ∀ S, (∀ n b, S n = some b → b.cl S) → awp P mu fn.ntmps c (EndP P fn S [(z, o')] res) ⟨lk' (entryL 0 (args.map (·.map .out))), ov [(.out z, o)] (pushS S)⟩) : AProc P f args [(z, o)] [(z, o')] res :=
  aproc hf hb hname hm hok hl (fun q x hx hq => ⟨o, by rw [hA q x hx hq]; simp⟩) (fun q hq => by rw [hR q hq]; exact hz) (fun p hp => by simp at hp; rw [hp]; exact hz)
    (fun p hp => by simp at hp; rw [hp]; exact ⟨hn, hz⟩) (fun p hp => by simp at hp; rw [hp]; exact hn') (by simp) h

theorem aproc2 {f : FuncId} {fn : Func} {c : Code} {args : List AVal} {z y : Nm} {o o' p p' : AObj} {res : AVal} (hzy : z ≠ y) (hf : P.funcs[f]? = some fn) (hb : fn.body = some c) (hname : (fn.name == "runtime.NumGoroutine") = false)
    (hm : P.follows .mixedOrders = true) (hok : okC fn.ntmps mu c = true) (hl : args.length ≤ fn.ntmps) (hA : ∀ q x, x ∈ args → x.at q → q = z ∨ q = y) (hz : ∃ x ∈ args, x.at z) (hy : ∃ x ∈ args, x.at y) (hR : ∀ q, res.at q → q = z ∨ q = y)
    (hn : o.nm0) (hn' : o'.nm0) (hp : p.nm0) (hp' : p'.nm0)
    (h : ∀ S, (∀ n b, S n = some b → b.cl S) → awp P mu fn.ntmps c (EndP P fn S [(z, o'), (y, p')] res) ⟨lk' (entryL 0 (args.map (·.map .out))), ov [(.out z, o), (.out y, p)] (pushS S)⟩) : AProc P f args [(z, o), (y, p)] [(z, o'), (y, p')] res :=
  aproc hf hb hname hm hok hl (fun q x hx hq => by rcases hA q x hx hq with rfl | rfl; exact ⟨o, by simp⟩; exact ⟨p, by simp⟩) (fun q hq => by rcases hR q hq with rfl | rfl; exact hz; exact hy)
    (fun r hr => by simp at hr; rcases hr with rfl | rfl; exact hz; exact hy) (fun r hr => by simp at hr; rcases hr with rfl | rfl; exact ⟨hn, hz⟩; exact ⟨hp, hy⟩)
    (fun r hr => by simp at hr; rcases hr with rfl | rfl; exact hn'; exact hp') (by simp [hzy]) h
end

section
variable {P : Program} {T : TT} {mu : FuncId → Bool} {N : Nat} {ops : Array Oper} {fl : FL} {sl : SL} {S S' : Store} {K : St → Prop}
  {d : Nat} {ty : TypeId} {pos : String} {after : Array Edge}
theorem s_app8 {s x : Operand} {tys : Array TypeId} {t e : TypeId} {as : Array Operand} {m : Nm} {n0 : Nat} {k : IntKind} {L Y : List Int} {xv : AVal} (hT : TOk P T) (hY : srcE (ov sl S) xv k Y)
    (hl : L.length + Y.length ≤ 17592186044416) (kk : K ⟨lk' ((d, .accv m (n0 + Y.length)) :: killL m fl), ov ((m, .accI e k (L ++ Y)) :: sl) S⟩)
    (ha : as.toList = [s, x] := by exact rfl) (ht : tys.toList = [t, t] := by exact rfl) (hu : undT T t = some (.slice e) := by exact rfl) (hc1 : celT T e = 1 := by exact rfl)
    (hz : zerT T e = some (.int k 0) := by exact rfl) (hs : opO fl s = some (.accv m n0) := by exact rfl) (hx : opO fl x = some xv := by exact rfl) (hm : lkS sl m = some (.accI e k L) := by exact lks) (hn : L.length = n0 := by first | rfl | exact List.length_map .. | (simp; done) | (simp; omega))
    (ho : m.isOut = false := by exact rfl) (hb : bytT T e = some 8 := by exact rfl) :
    Stp P mu ops ⟨some d, .call ⟨.builtin .append, as, tys⟩, ty, pos, after, none⟩ ⟨lk' fl, ov sl S⟩ K := stp_app hT ha ht hu hc1 hz hs hx hm hn ho hY hb ⟨by omega, by simp only [maxLen]; omega⟩ kk
theorem s_app08 {s x : Operand} {tys : Array TypeId} {t e : TypeId} {as : Array Operand} {k : IntKind} {Y : List Int} {xv : AVal} (hT : TOk P T) (hY : srcE (ov sl (pushS S)) xv k Y)
    (hl : Y.length ≤ 17592186044416) (kk : K ⟨lk' ((d, .accv (.loc d) Y.length) :: killL (.loc d) fl), ov ((.loc d, .accI e k Y) :: sl) (pushS S)⟩)
    (ha : as.toList = [s, x] := by exact rfl) (ht : tys.toList = [t, t] := by exact rfl) (hu : undT T t = some (.slice e) := by exact rfl) (hc1 : celT T e = 1 := by exact rfl)
    (hz : zerT T e = some (.int k 0) := by exact rfl) (hs : opO fl s = some nils := by exact rfl) (hx : opO fl x = some xv := by exact rfl) (hf : freeO sl d = true := by exact fro) (hb : bytT T e = some 8 := by exact rfl) :
    Stp P mu ops ⟨some d, .call ⟨.builtin .append, as, tys⟩, ty, pos, after, none⟩ ⟨lk' fl, ov sl (pushS S)⟩ K := stp_app0 hT ha ht hu hc1 hz hs hx hf hY hb ⟨by omega, by simp only [maxLen]; omega⟩ kk
end

theorem ovNe {sl : SL} {S : Store} {m : Nm} {o : AObj} (h : lkS sl m = some o) : ov sl S m ≠ none := by rw [ov_of h]; simp
theorem fF {A B : Store} {fl r : FL} {t : Nat} {u v : AVal} (h : FrzV A B u v) (h2 : FrzF A B fl r) (e : lkO fl t = some u := by exact rfl) : FrzF A B fl ((t, v) :: r) := ⟨⟨u, e, h⟩, h2⟩
theorem fS {A B : Store} {r : SL} {m : Nm} {o o' : AObj} (h : FrzO A B o o') (h2 : FrzS A B r) (e : A m = some o := by exact ov_of lks) : FrzS A B ((m, o') :: r) := ⟨.inl ⟨o, e, h⟩, h2⟩
end Go.Abs

/-
  A block that is written no more: all that look at it are told as they stand.
-/
namespace Go.Abs
open Go

def Nm.isLoc (d : Nat) : Nm → Bool
  | .loc a => Nat.beq a d
  | _ => false
theorem Nm.isLoc_t {d : Nat} {m : Nm} (h : m.isLoc d = true) : m = .loc d := by
  cases m with
  | loc a => exact congrArg Nm.loc (Nat.eq_of_beq_eq_true h)
  | _ => cases h
theorem Nm.isLoc_f {d : Nat} {m : Nm} (h : m.isLoc d = false) : m ≠ .loc d := fun e => by
  subst e; simp [Nm.isLoc] at h

def Cell.hasL (d : Nat) : Cell → Bool
  | .win m _ _ _ => m.isLoc d
  | .ptr m _ => m.isLoc d
  | _ => false
theorem Cell.hasL_f {d : Nat} {x : Cell} (h : x.hasL d = false) {m : Nm} (hm : x.at m) : m ≠ .loc d := by
  cases x with
  | win n _ _ _ => rw [← show n = m from hm]; exact Nm.isLoc_f h
  | ptr n _ => rw [← show n = m from hm]; exact Nm.isLoc_f h
  | _ => exact hm.elim

@[simp] theorem Leaf.hasL_cell (d : Nat) (l : Leaf) : l.cell.hasL d = false := by cases l <;> rfl

def leafC : Cell → Option Leaf
  | .sc v => some (.sc v)
  | .ints k L => some (.ints k L)
  | .intc k L n => some (.intc k L n)
  | .pim cs => some (.pim cs)
  | .seq sz L => some (.seq sz L)
  | .seqc sz L n => some (.seqc sz L n)
  | _ => none
def leafsC : List Cell → Option (List Leaf)
  | [] => some []
  | x :: xs => match leafC x, leafsC xs with
    | some y, some ys => some (y :: ys)
    | _, _ => none
theorem leafC_spec {x : Cell} {l : Leaf} (h : leafC x = some l) : x = l.cell := by
  cases x <;> simp only [leafC] at h <;> first | cases h; done | (obtain rfl := Option.some.inj h; rfl)
theorem leafsC_spec : ∀ {xs : List Cell} {ls : List Leaf}, leafsC xs = some ls → xs = ls.map Leaf.cell
  | [], ls, h => by simp only [leafsC, Option.some.injEq] at h; subst h; rfl
  | x :: xs, ls, h => by
    simp only [leafsC] at h
    split at h
    · rename_i y ys h1 h2
      obtain rfl := Option.some.inj h
      rw [leafC_spec h1, leafsC_spec h2]; rfl
    · cases h

def fzC (d : Nat) (o : AObj) : Cell → Cell
  | .win m off len cm => match m.isLoc d with
    | false => .win m off len cm
    | true => match o with
      | .ints _ k L => .ints k ((L.drop off).take len)
      | _ => .junk
  | .ptr m off => match m.isLoc d with
    | false => .ptr m off
    | true => match o with
      | .cells _ cs => match leafsC (cs.drop off) with
        | some ls => .pim ls
        | none => .junk
      | _ => .junk
  | x => x
def fzV (d : Nat) (o : AObj) (av : AVal) : AVal → AVal
  | .c x => .c (fzC d o x)
  | .agg cs => .agg (cs.map (fzC d o))
  | .fn f cs => match cs.any (Cell.hasL d) with
    | true => .c .junk
    | false => .fn f cs
  | .accv m n => match m.isLoc d with
    | false => .accv m n
    | true => av
  | .accp _ _ => .c .junk
  | .tup _ => .c .junk

def fzCP (d : Nat) (o : AObj) : Cell → Prop
  | .win m off len _ => match m.isLoc d with
    | false => True
    | true => match o with
      | .ints _ _ L => off + len ≤ L.length
      | _ => True
  | _ => True
def fzCsP (d : Nat) (o : AObj) : List Cell → Prop
  | [] => True
  | x :: xs => fzCP d o x ∧ fzCsP d o xs
def fzP (d : Nat) (o : AObj) : FL → Prop
  | [] => True
  | (_, .c (.win m off len cm)) :: r => fzCP d o (.win m off len cm) ∧ fzP d o r
  | (_, .agg cs) :: r => fzCsP d o cs ∧ fzP d o r
  | _ :: r => fzP d o r

def delL (d : Nat) : SL → SL
  | [] => []
  | (m, o) :: r => match m.isLoc d with
    | true => delL d r
    | false => (m, o) :: delL d r
theorem delL_at (d : Nat) : ∀ sl : SL, lkS (delL d sl) (.loc d) = none
  | [] => rfl
  | (m, o) :: r => by
    simp only [delL]
    cases e : m.isLoc d with
    | true => exact delL_at d r
    | false =>
      simp only [lkS]
      rw [if_neg (fun q => Nm.isLoc_f e q.symm)]
      exact delL_at d r
theorem delL_ne (d : Nat) {q : Nm} (hq : q ≠ .loc d) : ∀ sl : SL, lkS (delL d sl) q = lkS sl q
  | [] => rfl
  | (m, o) :: r => by
    simp only [delL]
    cases e : m.isLoc d with
    | true =>
      simp only [lkS]
      rw [if_neg (fun h => hq (h.trans (Nm.isLoc_t e)))]
      exact delL_ne d hq r
    | false => simp only [lkS]; rw [delL_ne d hq r]

def noL (d : Nat) : SL → Bool
  | [] => true
  | (m, .cells _ cs) :: r => match m.isLoc d, cs.any (Cell.hasL d) with
    | false, true => false
    | _, _ => noL d r
  | (m, .row _ cs) :: r => match m.isLoc d, cs.any (Cell.hasL d) with
    | false, true => false
    | _, _ => noL d r
  | (m, .acc _ _ R) :: r => match m.isLoc d, R.any (fun c => c.any (Cell.hasL d)) with
    | false, true => false
    | _, _ => noL d r
  | _ :: r => noL d r
theorem ir_any (d : Nat) (k : IntKind) (L : List Int) : ((ir k L).any fun c => c.any (Cell.hasL d)) = false := by
  induction L with
  | nil => rfl
  | cons a L ih => simpa [ir, Cell.hasL] using ih
theorem noL_spec {d : Nat} : ∀ {sl : SL}, noL d sl = true → ∀ m o, lkS sl m = some o → m ≠ .loc d → ∀ x ∈ o.cls, x.hasL d = false
  | (n, o0) :: r, h, m, o, hm, hne, x, hx => by
    simp only [lkS] at hm
    split at hm
    · rename_i e
      subst e
      obtain rfl := Option.some.inj hm
      have e1 : m.isLoc d = false := by
        cases e1 : m.isLoc d with
        | true => exact absurd (Nm.isLoc_t e1) hne
        | false => rfl
      cases o0 with
      | ints _ _ _ => exact absurd hx List.not_mem_nil
      | fix _ => exact absurd hx List.not_mem_nil
      | row ty cs =>
        simp only [noL, e1] at h
        cases e2 : cs.any (Cell.hasL d) with
        | true => rw [e2] at h; cases h
        | false => exact (by simpa using List.any_eq_false.1 e2 x hx)
      | cells ty cs =>
        simp only [noL, e1] at h
        cases e2 : cs.any (Cell.hasL d) with
        | true => rw [e2] at h; cases h
        | false => exact (by simpa using List.any_eq_false.1 e2 x hx)
      | acc ty sz R =>
        simp only [noL, e1] at h
        cases e2 : R.any (fun c => c.any (Cell.hasL d)) with
        | true => rw [e2] at h; cases h
        | false =>
          obtain ⟨c, hc, hx⟩ := List.mem_flatten.1 hx
          have h3 := List.any_eq_false.1 e2 c hc
          exact (by simpa using List.any_eq_false.1 (by simpa using h3) x hx)
    · refine noL_spec (sl := r) ?_ m o hm hne x hx
      cases o0 with
      | ints _ _ _ => exact h
      | fix _ => exact h
      | row ty cs => simp only [noL] at h; split at h <;> first | cases h | exact h
      | cells ty cs => simp only [noL] at h; split at h <;> first | cases h | exact h
      | acc ty sz R => simp only [noL] at h; split at h <;> first | cases h | exact h

section
variable {P : Program} {mu : FuncId → Bool} {N : Nat} {ops : Array Oper} {fl : FL} {sl : SL} {S : Store} {Q : Exit → St → Prop} {l : List Oper}

theorem fzCsP_at {d : Nat} {o : AObj} : ∀ {cs : List Cell}, fzCsP d o cs → ∀ x ∈ cs, fzCP d o x
  | y :: ys, ⟨h1, h2⟩, x, hx => by
    rcases List.mem_cons.1 hx with rfl | hx
    · exact h1
    · exact fzCsP_at h2 x hx
theorem fzP_at {d : Nat} {o : AObj} : ∀ {fl : FL}, fzP d o fl → ∀ t v, lkO fl t = some v → (∀ x, v = .c x → fzCP d o x) ∧ ∀ cs, v = .agg cs → fzCsP d o cs
  | (s, u) :: r, h, t, v, hv => by
    simp only [lkO] at hv
    split at hv
    · obtain rfl := Option.some.inj hv
      refine ⟨fun x e => ?_, fun cs e => ?_⟩
      · subst e
        cases x <;> first | exact h.1 | trivial
      · subst e; exact h.1
    · refine fzP_at (fl := r) ?_ t v hv
      cases u with
      | c x => cases x <;> first | exact h.2 | exact h
      | agg cs => exact h.2
      | _ => exact h
theorem lkO_map (f : AVal → AVal) : ∀ (fl : FL) (t : Nat), lkO (fl.map fun p => (p.1, f p.2)) t = (lkO fl t).map f
  | [], t => rfl
  | (s, u) :: r, t => by
    simp only [List.map_cons, lkO]
    cases Nat.beq s t with
    | true => rfl
    | false => exact lkO_map f r t

theorem fzC_frz {A B : Store} {d : Nat} {o : AObj} (hA : A (.loc d) = some o) (hB : B (.loc d) = none) {x : Cell} (hk : x.hasL d = false → ∀ m, x.at m → B m ≠ none) (hp : fzCP d o x) : FrzC A B x (fzC d o x) := by
  have keep : x.hasL d = false → FrzC A B x x := fun h => .base (.keep (hk h))
  cases x with
  | win m off len cm =>
    simp only [fzC]
    cases e : m.isLoc d with
    | false => exact keep e
    | true =>
      have := Nm.isLoc_t e
      subst this
      simp only [fzCP, e] at hp
      cases o with
      | ints ty k L => exact .base (.win hA hB hp rfl)
      | fix _ => exact .base .junk
      | row _ _ => exact .base .junk
      | cells ty cs => exact .base .junk
      | acc ty k L => exact .base .junk
  | ptr m off =>
    simp only [fzC]
    cases e : m.isLoc d with
    | false => exact keep e
    | true =>
      have := Nm.isLoc_t e
      subst this
      cases o with
      | ints ty k L => exact .base .junk
      | fix _ => exact .base .junk
      | row _ _ => exact .base .junk
      | acc ty k L => exact .base .junk
      | cells ty cs =>
        simp only
        cases e2 : leafsC (cs.drop off) with
        | none => exact .base .junk
        | some ls =>
          have e3 := leafsC_spec e2
          refine .base (.ptr (fun j => ((ls[j]?).map Leaf.cell).getD .junk) (.inl hA) hB (fun j l hj => ?_) fun j l hj => by simp only [hj, Option.map_some, Option.getD_some]; exact .keep fun q hq => absurd hq (l.cell_nm q))
          have : (cs.drop off)[j]? = some l.cell := by rw [e3]; simp [hj]
          rw [List.getElem?_drop] at this
          simp only [hj, Option.map_some, Option.getD_some]
          exact this
  | sc v => exact keep rfl
  | ints k L => exact keep rfl
  | intc k L n => exact keep rfl
  | seq n L => exact keep rfl
  | seqc n L q => exact keep rfl
  | pim ls => exact keep rfl
  | fx x => exact keep rfl
  | junk => exact keep rfl

theorem Weak.fz {d : Nat} {o : AObj} (hm : lkS sl (.loc d) = some o) (hn : noL d sl = true) (hp : fzP d o fl) {av : AVal} (hav : av = .c .junk ∨ ∀ n, FrzV (ov sl (pushS S)) (ov (delL d sl) (pushS S)) (.accv (.loc d) n) av) : Weak ⟨lk' fl, ov sl (pushS S)⟩ ⟨lk' (fl.map fun p => (p.1, fzV d o av p.2)), ov (delL d sl) (pushS S)⟩ := fun w ρ tm hs => by
  have hA : ov sl (pushS S) (.loc d) = some o := ov_of hm
  have hB : ov (delL d sl) (pushS S) (.loc d) = none := by simp [ov, delL_at, pushS]
  have hBA : ∀ q, q ≠ .loc d → ov (delL d sl) (pushS S) q = ov sl (pushS S) q := fun q hq => by simp [ov, delL_ne d hq]
  have hcl := hs.env.cl
  refine (Weak.frz (st := ⟨lk' fl, ov sl (pushS S)⟩) (F := ⟨lk' (fl.map fun p => (p.1, fzV d o av p.2)), ov (delL d sl) (pushS S)⟩) (fun m o' hm' => ?_) (fun m => hBA _ (fun e => by cases e)) (fun t => ?_)) w ρ tm hs
  · have hne : m ≠ .loc d := fun e => by
      subst e
      have hm3 : ov (delL d sl) (pushS S) (.loc d) = some o' := hm'
      rw [hB] at hm3; cases hm3
    have hm2 : ov sl (pushS S) m = some o' := by rw [← hBA m hne]; exact hm'
    refine .inl ⟨o', hm2, ?_⟩
    refine .keep fun y hy q hq => ?_
    have h1 := AObj.cl_cls.1 (hcl m _ hm2) y hy q hq
    have hqd : q ≠ .loc d := by
      cases e : lkS sl m with
      | some o2 =>
        have : o2 = o' := by simp only [ov, e] at hm2; exact Option.some.inj hm2
        rw [this] at e
        exact Cell.hasL_f (noL_spec hn m _ e hne y hy) hq
      | none =>
        simp only [ov, e] at hm2
        obtain ⟨a, b, rfl, h2, rfl⟩ := pushS_some hm2
        obtain ⟨z, hz, rfl⟩ := cls_map hy
        obtain ⟨n, hn, rfl⟩ := Cell.map_at hq
        intro e; cases e
    show ov (delL d sl) (pushS S) q ≠ none
    rw [hBA q hqd]; exact h1
  · show lk' _ t = _ ∨ _
    simp only [lk', lkO_map]
    cases e : lkO fl t with
    | none => exact .inl rfl
    | some v =>
      simp only [Option.map_some, Option.getD_some]
      have hv := hs.fr t
      have hvc := hv.cl
      have e0 : lk' fl t = v := by simp [lk', e]
      simp only [e0] at hv hvc
      obtain ⟨hp1, hp2⟩ := fzP_at hp t v e
      cases v with
      | c x => exact .inr (.c (fzC_frz hA hB (fun h m hm => by show ov (delL d sl) (pushS S) m ≠ none; rw [hBA m (Cell.hasL_f h hm)]; exact hvc m hm) (hp1 x rfl)))
      | agg cs =>
        refine .inr (.agg (by simp) fun i x y hx hy => ?_)
        rw [List.getElem?_map, hx, Option.map_some] at hy
        obtain rfl := Option.some.inj hy
        have hxm := List.mem_of_getElem? hx
        exact fzC_frz hA hB (fun h m hm => by show ov (delL d sl) (pushS S) m ≠ none; rw [hBA m (Cell.hasL_f h hm)]; exact hvc m ⟨x, hxm, hm⟩) (fzCsP_at (hp2 cs rfl) x hxm)
      | fn f cs =>
        simp only [fzV]
        cases e2 : cs.any (Cell.hasL d) with
        | true => exact .inl rfl
        | false =>
          refine .inr (kFn fun x hx m hm => ?_)
          have := List.any_eq_false.1 e2 x hx
          show ov (delL d sl) (pushS S) m ≠ none
          rw [hBA m (Cell.hasL_f (by simpa using this) hm)]; exact hvc m ⟨x, hx, hm⟩
      | accp m n => exact .inl rfl
      | accv m n =>
        simp only [fzV]
        cases e2 : m.isLoc d with
        | false =>
          have hmd := Nm.isLoc_f e2
          obtain ⟨ty, k, L, ho, hn2, -⟩ := hv
          exact .inr (.accK ho (by rw [← ho]; exact hBA m hmd) rfl hn2.symm)
        | true =>
          have := Nm.isLoc_t e2
          subst this
          exact hav.imp (fun h => h) (fun h => h n)
      | tup xs => exact .inl rfl

theorem aw_fz (d : Nat) {o : AObj} (h : aw P mu N ops Q l ⟨lk' (fl.map fun p => (p.1, fzV d o (.c .junk) p.2)), ov (delL d sl) (pushS S)⟩) (hp : fzP d o fl) (hm : lkS sl (.loc d) = some o := by exact lks) (hn : noL d sl = true := by first | exact rfl | simp [noL, Nm.isLoc, addL, delL, ir_any]) :
    aw P mu N ops Q l ⟨lk' fl, ov sl (pushS S)⟩ := aw_weak _ (Weak.fz hm hn hp (.inl rfl)) h
theorem awp_fz (d : Nat) {o : AObj} {c : Code} (h : awp P mu N c Q ⟨lk' (fl.map fun p => (p.1, fzV d o (.c .junk) p.2)), ov (delL d sl) (pushS S)⟩) (hp : fzP d o fl) (hm : lkS sl (.loc d) = some o := by exact lks) (hn : noL d sl = true := by first | exact rfl | simp [noL, Nm.isLoc, addL, delL, ir_any]) :
    awp P mu N c Q ⟨lk' fl, ov sl (pushS S)⟩ := awp_weak _ (Weak.fz hm hn hp (.inl rfl)) h
theorem fzI_av {d : Nat} {ty : TypeId} {k : IntKind} {L : List Int} (hm : lkS sl (.loc d) = some (.accI ty k L)) (n : Nat) : FrzV (ov sl (pushS S)) (ov (delL d sl) (pushS S)) (.accv (.loc d) n) (.c (.ints k L)) :=
  .accI (ov_of hm) (by simp [ov, delL_at, pushS])

theorem aw_fzI (d : Nat) {ty : TypeId} {k : IntKind} {L : List Int} (h : aw P mu N ops Q l ⟨lk' (fl.map fun p => (p.1, fzV d (.accI ty k L) (.c (.ints k L)) p.2)), ov (delL d sl) (pushS S)⟩) (hp : fzP d (.accI ty k L) fl) (hm : lkS sl (.loc d) = some (.accI ty k L) := by exact lks) (hn : noL d sl = true := by first | exact rfl | simp [noL, Nm.isLoc, addL, delL, ir_any]) :
    aw P mu N ops Q l ⟨lk' fl, ov sl (pushS S)⟩ := aw_weak _ (Weak.fz hm hn hp (.inr (fzI_av hm))) h
theorem awp_fzI (d : Nat) {ty : TypeId} {k : IntKind} {L : List Int} {c : Code} (h : awp P mu N c Q ⟨lk' (fl.map fun p => (p.1, fzV d (.accI ty k L) (.c (.ints k L)) p.2)), ov (delL d sl) (pushS S)⟩) (hp : fzP d (.accI ty k L) fl) (hm : lkS sl (.loc d) = some (.accI ty k L) := by exact lks) (hn : noL d sl = true := by first | exact rfl | simp [noL, Nm.isLoc, addL, delL, ir_any]) :
    awp P mu N c Q ⟨lk' fl, ov sl (pushS S)⟩ := awp_weak _ (Weak.fz hm hn hp (.inr (fzI_av hm))) h
end
end Go.Abs

/-
  Functions that hand out a new block, whatever they tell of it; functions that only read blocks; an append to a list of one's own that may move.
-/
namespace Go.Abs
open Go

structure AMade (P : Program) (f : FuncId) (args : List AVal) (res : Nm → AVal) (ob : AObj) : Prop where
  calls : ∀ Φ, ACalls P f args Φ res (fun n => [(n, ob)])
  args0 : ∀ x ∈ args, nm0 x
  resM : ∀ (φ : Nm → Nm) n, (res n).map φ = res (φ n)
  resN : ∀ n m, (res n).at m → m = n
  ob0 : ob.nm0

structure ARead (P : Program) (f : FuncId) (args : List AVal) (pre : SL) (res : AVal) : Prop where
  calls : ∀ Φ, (∀ p ∈ pre, Φ p.1 = some p.2) → ACalls P f args Φ (fun _ => res) (fun _ => [])
  nmR : ∀ Φ, (∀ p ∈ pre, Φ p.1 = some p.2) → ∀ q, res.at q → Rch Φ args q

section
variable {P : Program} {mu : FuncId → Bool}

theorem AProc.read {f : FuncId} {args : List AVal} {m : Nm} {o : AObj} {res : AVal} (h : AProc P f args [(m, o)] [(m, o)] res) (hm : ∃ x ∈ args, x.at m) : ARead P f args [(m, o)] res where
  nmR := h.nmR
  calls Φ hΦ n S hag hn hnf w ρ vs he hgl hvs := by
    have hS : S m = some o := by rw [hag m (.of hm)]; exact hΦ (m, o) (by simp)
    have e : updL S [(m, o)] = S := by simp only [updL]; exact upd_self hS
    have := h.calls Φ hΦ n S hag hn hnf w ρ vs he hgl hvs
    rw [e] at this
    rcases this with h1 | ⟨v, -, -, hu⟩
    · exact .inl h1
    · cases hu

def EndG (P : Program) (fn : Func) (S : Store) (res : Nm → AVal) (ob : AObj) (e : Exit) (st : St) : Prop :=
  (e = .normal ∨ e = .ret) ∧ ∃ T fl l vs, TOk P T ∧ l.isOut = false ∧ Weak st ⟨lk' fl, ov [(l, ob)] (pushS S)⟩ ∧ resL T fl fn.results.toList = some vs ∧ flatL vs = true ∧ oneR vs = res l

theorem amade {f : FuncId} {fn : Func} {c : Code} {args : List AVal} {res : Nm → AVal} {ob : AObj} (hf : P.funcs[f]? = some fn) (hb : fn.body = some c) (hname : (fn.name == "runtime.NumGoroutine") = false)
    (hm : P.follows .mixedOrders = true) (hok : okC fn.ntmps mu c = true) (hl : args.length ≤ fn.ntmps) (ha : ∀ x ∈ args, nm0 x) (resM : ∀ (φ : Nm → Nm) n, (res n).map φ = res (φ n)) (resN : ∀ n m, (res n).at m → m = n) (ob0 : ob.nm0)
    (h : ∀ S, (∀ n b, S n = some b → b.cl S) → awp P mu fn.ntmps c (EndG P fn S res ob) ⟨lk' (entryL 0 args), ov [] (pushS S)⟩) : AMade P f args res ob := by
  refine ⟨fun Φ => acalls hf hb hname hm hok hl fun n S _ hn hnf hcl => ?_, ha, resM, resN, ob0⟩
  refine awp_weak _ (entry_weak args S) ?_
  have e1 : args.map (·.map .out) = args := by
    conv => rhs; rw [← List.map_id args]
    exact List.map_congr_left fun x hx => AVal.map_nm0 (ha x hx)
  rw [e1]
  refine awp_post (awp_mono (h S hcl) ?_)
  rintro e st ⟨he, T, fl, l, vs, hT, hlo, h1, h2, h3, h4⟩
  exact ⟨_, h1, he, _, fun _ => l, resL_spec hT h2, flatL_spec h3, fun _ => hlo, back_new hlo ob0 hn hnf hcl, fun m hm => by have : m = n := resN n m hm; subst this; simp [updL, upd], by rw [h4, resM, if_pos (Nm.isNew_self n)]⟩

theorem endG {T : TT} (hT : TOk P T) {fn : Func} {S : Store} {res : Nm → AVal} {ob : AObj} {e : Exit} {fl fl' : FL} {sl : SL} {l : Nm} {vs : List AVal} (he : e = .normal ∨ e = .ret) (hS : ∀ n b, S n = some b → b.cl S) (hl : l.isOut = false) (ho : outsL sl = [])
    (hs : FrzS (ov sl (pushS S)) (ov [(l, ob)] (pushS S)) [(l, ob)]) (hf : FrzF (ov sl (pushS S)) (ov [(l, ob)] (pushS S)) fl fl')
    (hr : resL T fl' fn.results.toList = some vs) (hfl : flatL vs = true) (h1 : oneR vs = res l) : EndG P fn S res ob e ⟨lk' fl, ov sl (pushS S)⟩ :=
  ⟨he, T, fl', l, vs, hT, hl, frz hS (by rw [ho]; cases l <;> first | rfl | cases hl) hs hf, hr, hfl, h1⟩

variable {T : TT} {N : Nat} {ops : Array Oper} {fl : FL} {sl : SL} {S : Store} {K : St → Prop} {Q : Exit → St → Prop} {l : List Oper} {d : Nat} {ty : TypeId} {pos : String} {after : Array Edge}

theorem s_made {f : FuncId} {as : Array Operand} {tys : Array TypeId} {xs args : List AVal} {res : Nm → AVal} {ob : AObj} (hc : AMade P f args res ob) (k : K ⟨lk' ((d, res (.loc d)) :: fl), ov ((.loc d, ob) :: sl) (pushS S)⟩) (hx : opsO fl as.toList = some xs := by exact rfl)
    (hle : ALes xs args := by repeat (first | exact trivial | refine ⟨ALe.refl _, ?_⟩ | refine ⟨.inr (.inl ⟨_, rfl, rfl⟩), ?_⟩)) (hf : freeO sl d = true := by exact fro) :
    Stp P mu ops ⟨some d, .call ⟨.value (.func f), as, tys⟩, ty, pos, after, none⟩ ⟨lk' fl, ov sl (pushS S)⟩ K :=
  stp_call (hc.calls (ov sl (pushS S))) rfl hx (by simpa using hle) hf (fun _ _ => rfl)
    ⟨fun p hp => .inl (by simp at hp; rw [hp]; rfl), .inr (.inr ⟨d, _, rfl, rfl⟩), fun m hm => .inl ⟨ob, by rw [hc.resN _ _ hm]; simp⟩,
      fun p hp x hx m hm => by
        simp at hp; subst hp
        exact absurd hm (hc.ob0 x hx m)⟩ k

theorem s_read {f : FuncId} {as : Array Operand} {tys : Array TypeId} {xs args : List AVal} {pre : SL} {res : AVal} (hc : ARead P f args pre res) (k : K ⟨lk' ((d, res) :: fl), ov sl (pushS S)⟩)
    (hpre : ∀ p ∈ pre, lkS sl p.1 = some p.2) (hx : opsO fl as.toList = some xs := by exact rfl)
    (hle : ALes xs args := by repeat (first | exact trivial | refine ⟨ALe.refl _, ?_⟩ | refine ⟨.inr (.inl ⟨_, rfl, rfl⟩), ?_⟩)) (hf : freeO sl d = true := by exact fro) :
    Stp P mu ops ⟨some d, .call ⟨.value (.func f), as, tys⟩, ty, pos, after, none⟩ ⟨lk' fl, ov sl (pushS S)⟩ K :=
  stp_call (hc.calls (ov sl (pushS S)) fun p hp => ov_of (hpre p hp)) rfl hx (by simpa using hle) hf (fun _ _ => rfl)
    ⟨by simp, .inl rfl, fun m hm => .inr (hc.nmR _ (fun p hp => ov_of (hpre p hp)) m hm), by simp⟩ k

/-! ### An append to a list of one's own -/
def kilV (q : Nat) : AVal → AVal
  | .c x => match x.hasL q with | true => .c .junk | false => .c x
  | .agg cs => match cs.any (Cell.hasL q) with | true => .c .junk | false => .agg cs
  | .fn f cs => match cs.any (Cell.hasL q) with | true => .c .junk | false => .fn f cs
  | .accv m n => match m.isLoc q with | true => .c .junk | false => .accv m n
  | .accp m n => match m.isLoc q with | true => .c .junk | false => .accp m n
  | .tup _ => .c .junk

theorem kilV_cases (q : Nat) (x : AVal) : kilV q x = .c .junk ∨ (kilV q x = x ∧ ∀ m, x.at m → m ≠ .loc q) := by
  cases x with
  | c x =>
    simp only [kilV]
    cases e : x.hasL q with
    | true => exact .inl rfl
    | false => exact .inr ⟨rfl, fun m hm => Cell.hasL_f e hm⟩
  | agg cs =>
    simp only [kilV]
    cases e : cs.any (Cell.hasL q) with
    | true => exact .inl rfl
    | false => exact .inr ⟨rfl, fun m ⟨y, hy, hm⟩ => Cell.hasL_f (by simpa using List.any_eq_false.1 e y hy) hm⟩
  | fn f cs =>
    simp only [kilV]
    cases e : cs.any (Cell.hasL q) with
    | true => exact .inl rfl
    | false => exact .inr ⟨rfl, fun m ⟨y, hy, hm⟩ => Cell.hasL_f (by simpa using List.any_eq_false.1 e y hy) hm⟩
  | accv n k =>
    simp only [kilV]
    cases e : n.isLoc q with
    | true => exact .inl rfl
    | false => exact .inr ⟨rfl, fun m hm => by rw [← show n = m from hm]; exact Nm.isLoc_f e⟩
  | accp n k =>
    simp only [kilV]
    cases e : n.isLoc q with
    | true => exact .inl rfl
    | false => exact .inr ⟨rfl, fun m hm => by rw [← show n = m from hm]; exact Nm.isLoc_f e⟩
  | tup xs => exact .inl rfl

theorem freeO_lk : ∀ {sl : SL} {d : Nat}, freeO sl d = true → lkS sl (.loc d) = none := by
  intro sl d h
  have := freeO_spec (S := fun _ => none) h
  simp only [ov] at this
  cases e : lkS sl (.loc d) with
  | none => rfl
  | some o => rw [e] at this; cases this

theorem kilV_fr {A B : Store} {fl : FL} {q : Nat} {w : World} {ρ : Nm → Nat} {tm : Array Value} (hs : ∀ t, VS w ρ A (lk' fl t) (tm.getD t undef)) (hBA : ∀ m, m ≠ .loc q → A m ≠ none → B m ≠ none) (t : Nat) :
    lk' (fl.map fun p => (p.1, kilV q p.2)) t = .c .junk ∨ ((lk' (fl.map fun p => (p.1, kilV q p.2)) t).cl B ∧ lk' fl t = lk' (fl.map fun p => (p.1, kilV q p.2)) t ∧ ∀ m, (lk' (fl.map fun p => (p.1, kilV q p.2)) t).at m → m ≠ .loc q ∧ A m ≠ none) := by
  have hv := (hs t).cl
  simp only [lk', lkO_map] at hv ⊢
  cases e : lkO fl t with
  | none => exact .inl rfl
  | some v =>
    rw [e] at hv
    simp only [Option.map_some, Option.getD_some] at hv ⊢
    rcases kilV_cases q v with h | ⟨h1, h2⟩
    · exact .inl h
    · rw [h1]; exact .inr ⟨fun m hm => hBA m (h2 m hm) (hv m hm), rfl, fun m hm => ⟨h2 m hm, hv m hm⟩⟩

theorem Weak.dropq {q : Nat} (hn : noL q sl = true) : Weak ⟨lk' fl, ov sl (pushS S)⟩ ⟨lk' (fl.map fun p => (p.1, kilV q p.2)), ov (delL q sl) (pushS S)⟩ := fun w ρ tm hs => by
  have hcl := hs.env.cl
  have hBq : ov (delL q sl) (pushS S) (.loc q) = none := by simp [ov, delL_at, pushS]
  have hB : ∀ m, m ≠ .loc q → ov (delL q sl) (pushS S) m = ov sl (pushS S) m := fun m h2 => by simp [ov, delL_ne q h2]
  refine (Weak.drop (st := ⟨lk' fl, ov sl (pushS S)⟩) (F := ⟨lk' (fl.map fun p => (p.1, kilV q p.2)), ov (delL q sl) (pushS S)⟩) (fun m o hm => ?_) (fun m => hB _ (fun e => by cases e)) (fun t => ?_)) w ρ tm hs
  · have hmq : m ≠ .loc q := fun h => by
      subst h
      have h2 : ov (delL q sl) (pushS S) (.loc q) = some o := hm
      rw [hBq] at h2; cases h2
    have hm2 : ov sl (pushS S) m = some o := by rw [← hB m hmq]; exact hm
    refine ⟨hm2, AObj.cl_cls.2 fun x hx r hr => ?_⟩
    have h5 := AObj.cl_cls.1 (hcl m _ hm2) x hx r hr
    have hrq : r ≠ .loc q := by
      cases e3 : lkS sl m with
      | some o2 =>
        have : o2 = o := by simp only [ov, e3] at hm2; exact Option.some.inj hm2
        rw [this] at e3
        exact Cell.hasL_f (noL_spec hn m _ e3 hmq x hx) hr
      | none =>
        simp only [ov, e3] at hm2
        obtain ⟨a, b, rfl, -, rfl⟩ := pushS_some hm2
        obtain ⟨z, hz, rfl⟩ := cls_map hx
        obtain ⟨n, hn, rfl⟩ := Cell.map_at hr
        exact fun h => by cases h
    show ov (delL q sl) (pushS S) r ≠ none
    rw [hB r hrq]; exact h5
  · rcases kilV_fr (A := ov sl (pushS S)) (B := ov (delL q sl) (pushS S)) (q := q) hs.fr (fun m h1 h2 => by rw [hB m h1]; exact h2) t with h | ⟨h1, h2, -⟩
    · exact .inl h
    · exact .inr ⟨h1, h2⟩

theorem Weak.renq {d q : Nat} {ob : AObj} (hob : ob.nm0) (hf : freeO sl d = true) (hdq : d ≠ q) (hn : noL q sl = true) (off len cm : Nat) :
    Weak ⟨lk' ((d, .c (.win (.loc q) off len cm)) :: fl), ov ((.loc q, ob) :: sl) (pushS S)⟩ ⟨lk' ((d, .c (.win (.loc d) off len cm)) :: fl.map fun p => (p.1, kilV q p.2)), ov ((.loc d, ob) :: delL q sl) (pushS S)⟩ := fun w ρ tm hs => by
  have hfd := freeO_lk hf
  have hcl := hs.env.cl
  have hA : ∀ m, m ≠ .loc q → ov ((.loc q, ob) :: sl) (pushS S) m = ov sl (pushS S) m := fun m hm => by simp [ov, lkS, hm]
  have hAd : ov ((.loc q, ob) :: sl) (pushS S) (.loc d) = none := by simp [ov, lkS, hdq, hfd, pushS]
  have hAq : ov ((.loc q, ob) :: sl) (pushS S) (.loc q) = some ob := by simp [ov, lkS]
  have hB : ∀ m, m ≠ .loc d → m ≠ .loc q → ov ((.loc d, ob) :: delL q sl) (pushS S) m = ov sl (pushS S) m := fun m h1 h2 => by simp [ov, lkS, h1, delL_ne q h2]
  have hBq : ov ((.loc d, ob) :: delL q sl) (pushS S) (.loc q) = none := by simp [ov, lkS, delL_at, pushS, Ne.symm hdq]
  have hBd : ov ((.loc d, ob) :: delL q sl) (pushS S) (.loc d) = some ob := by simp [ov, lkS]
  obtain ⟨φ, hφ⟩ : ∃ φ : Nm → Nm, φ = fun m => if m = .loc d then .loc q else m := ⟨_, rfl⟩
  have φd : φ (.loc d) = .loc q := by rw [hφ]; simp
  have φn : ∀ m, m ≠ .loc d → φ m = m := fun m hm => by rw [hφ]; simp [hm]
  have hne : ∀ m, m ≠ .loc d → ov ((.loc d, ob) :: delL q sl) (pushS S) m ≠ none → m ≠ .loc q := fun m _ h2 h => by subst h; exact h2 hBq
  have key : ∀ m o, m ≠ .loc d → ov ((.loc d, ob) :: delL q sl) (pushS S) m = some o → ∀ x ∈ o.cls, ∀ r, x.at r → r ≠ .loc q ∧ r ≠ .loc d ∧ ov ((.loc d, ob) :: delL q sl) (pushS S) r ≠ none := by
    intro m o h1 h2 x hx r hr
    have h3 := hne m h1 (by rw [h2]; simp)
    have h6 : ov sl (pushS S) m = some o := by rw [← hB m h1 h3]; exact h2
    have h5 : ov ((.loc q, ob) :: sl) (pushS S) r ≠ none := AObj.cl_cls.1 (hcl m _ (show ov ((.loc q, ob) :: sl) (pushS S) m = some o by rw [hA m h3]; exact h6)) x hx r hr
    have hrd : r ≠ .loc d := fun h => by subst h; exact h5 hAd
    have hrq : r ≠ .loc q := by
      cases e3 : lkS sl m with
      | some o2 =>
        have : o2 = o := by simp only [ov, e3] at h6; exact Option.some.inj h6
        rw [this] at e3
        exact Cell.hasL_f (noL_spec hn m _ e3 h3 x hx) hr
      | none =>
        simp only [ov, e3] at h6
        obtain ⟨a, b, rfl, -, rfl⟩ := pushS_some h6
        obtain ⟨z, hz, rfl⟩ := cls_map hx
        obtain ⟨n, hn, rfl⟩ := Cell.map_at hr
        exact fun h => by cases h
    exact ⟨hrq, hrd, by rw [hB r hrd hrq, ← hA r hrq]; exact h5⟩
  refine (Weak.back (st := ⟨lk' ((d, .c (.win (.loc q) off len cm)) :: fl), ov ((.loc q, ob) :: sl) (pushS S)⟩) (F := ⟨lk' ((d, .c (.win (.loc d) off len cm)) :: fl.map fun p => (p.1, kilV q p.2)), ov ((.loc d, ob) :: delL q sl) (pushS S)⟩) φ
    ⟨fun m m' h1 h2 e => ?_, fun m o hm => ?_, fun m o hm => ?_⟩ (fun m => φn _ (fun e => by cases e)) (fun m h1 h2 => ?_) (fun m => ?_) (fun t => ?_)) w ρ tm hs
  · have h1 : ov ((.loc d, ob) :: delL q sl) (pushS S) m ≠ none := h1
    have h2 : ov ((.loc d, ob) :: delL q sl) (pushS S) m' ≠ none := h2
    by_cases a : m = .loc d <;> by_cases b : m' = .loc d
    · rw [a, b]
    · subst a; rw [φd, φn m' b] at e; exact absurd e.symm (hne m' b h2)
    · subst b; rw [φd, φn m a] at e; exact absurd e (hne m a h1)
    · rw [φn m a, φn m' b] at e; exact e
  · have hm : ov ((.loc d, ob) :: delL q sl) (pushS S) m = some o := hm
    by_cases a : m = .loc d
    · subst a
      rw [hBd] at hm
      obtain rfl := Option.some.inj hm
      rw [φd, AObj.map_nm0 hob]; exact hAq
    · have h3 := hne m a (by rw [hm]; simp)
      rw [φn m a]
      have e1 : o.map φ = o := by
        rw [AObj.map_congr (ψ := id) fun x hx r hr => φn r (key m o a hm x hx r hr).2.1, AObj.map_id]
      rw [e1]
      show ov ((.loc q, ob) :: sl) (pushS S) m = some o
      rw [hA m h3, ← hB m a h3]; exact hm
  · have hm : ov ((.loc d, ob) :: delL q sl) (pushS S) m = some o := hm
    by_cases a : m = .loc d
    · subst a
      rw [hBd] at hm
      obtain rfl := Option.some.inj hm
      exact AObj.cl_nm0 hob
    · exact AObj.cl_cls.2 fun x hx r hr => (key m o a hm x hx r hr).2.2
  · by_cases a : m = .loc d
    · subst a; rw [φd] at h2; cases h2
    · exact φn m a
  · show ov ((.loc d, ob) :: delL q sl) (pushS S) (.out m) = ov ((.loc q, ob) :: sl) (pushS S) (.out m)
    rw [hB _ (fun e => by cases e) (fun e => by cases e), hA _ (fun e => by cases e)]
  · by_cases a : d = t
    · subst a
      refine .inr ⟨fun m hm => ?_, ?_⟩
      · have hm' : AVal.at m (AVal.c (.win (.loc d) off len cm)) := by simpa [lk', lkO, Nat.beq_refl] using hm
        have : (Nm.loc d) = m := hm'
        subst this
        show ov ((.loc d, ob) :: delL q sl) (pushS S) (.loc d) ≠ none
        rw [hBd]; simp
      · simp [lk', lkO, Nat.beq_refl, AVal.map, AVal.map1, Cell.map, φd]
    · have hbeq : Nat.beq d t = false := by
        cases e : Nat.beq d t with
        | false => rfl
        | true => exact absurd (Nat.eq_of_beq_eq_true e) a
      have e1 : ∀ (v : AVal) (r : FL), lk' ((d, v) :: r) t = lk' r t := fun v r => by simp [lk', lkO, hbeq]
      have hs' : ∀ t, d ≠ t → VS w ρ (ov ((.loc q, ob) :: sl) (pushS S)) (lk' fl t) (tm.getD t undef) := fun t ht => by
        have h0 : VS w ρ (ov ((.loc q, ob) :: sl) (pushS S)) (lk' ((d, AVal.c (.win (.loc q) off len cm)) :: fl) t) (tm.getD t undef) := hs.fr t
        have hb : Nat.beq d t = false := by
          cases e : Nat.beq d t with
          | false => rfl
          | true => exact absurd (Nat.eq_of_beq_eq_true e) ht
        rwa [show lk' ((d, AVal.c (.win (.loc q) off len cm)) :: fl) t = lk' fl t by simp [lk', lkO, hb]] at h0
      have hv := (hs' t a).cl
      show lk' ((d, AVal.c (.win (.loc d) off len cm)) :: fl.map fun p => (p.1, kilV q p.2)) t = .c .junk ∨ _
      simp only [e1]
      simp only [lk', lkO_map] at hv ⊢
      cases e : lkO fl t with
      | none => exact .inl rfl
      | some u =>
        rw [e] at hv
        simp only [Option.map_some, Option.getD_some] at hv ⊢
        rcases kilV_cases q u with h | ⟨h1, h2⟩
        · exact .inl h
        · rw [h1]
          have hmd : ∀ m, u.at m → m ≠ .loc d := fun m hm h => by subst h; exact hv _ hm hAd
          refine .inr ⟨fun m hm => ?_, ?_⟩
          · show ov ((.loc d, ob) :: delL q sl) (pushS S) m ≠ none
            rw [hB m (hmd m hm) (h2 m hm), ← hA m (h2 m hm)]; exact hv m hm
          · rw [show u.map φ = u.map id from AVal.map_congr fun m hm => φn m (hmd m hm), AVal.map_id]

theorem kilV_win {d q : Nat} (h : d ≠ q) (off len cm : Nat) : kilV q (.c (.win (.loc d) off len cm)) = .c (.win (.loc d) off len cm) := by
  have : Nat.beq d q = false := by
    cases e : Nat.beq d q with
    | false => rfl
    | true => exact absurd (Nat.eq_of_beq_eq_true e) h
  simp [kilV, Cell.hasL, Nm.isLoc, this]

theorem aw_appOwn (hT : TOk P T) {s x : Operand} {tys : Array TypeId} {t e : TypeId} {as : Array Operand} {q : Nat} {k : IntKind} {L Y : List Int} {len cm : Nat} {xv : AVal}
    (h : aw P mu N ops Q l ⟨lk' ((d, .c (.win (.loc d) 0 (len + Y.length) (len + Y.length))) :: fl.map fun p => (p.1, kilV q p.2)), ov ((.loc d, .ints e k (L.take len ++ Y)) :: delL q sl) (pushS S)⟩)
    (hY : srcE (ov sl (pushS S)) xv k Y) (hlen : 0 < cm ∧ len ≤ L.length ∧ 0 < Y.length ∧ len + Y.length ≤ 17592186044416)
    (ha : as.toList = [s, x] := by exact rfl) (ht : tys.toList = [t, t] := by exact rfl) (hu : undT T t = some (.slice e) := by exact rfl) (hc1 : celT T e = 1 := by exact rfl)
    (hz : zerT T e = some (.int k 0) := by exact rfl) (hs : opO fl s = some (.c (.win (.loc q) 0 len cm)) := by exact rfl) (hx : opO fl x = some xv := by exact rfl) (hm : lkS sl (.loc q) = some (.ints e k L) := by exact lks)
    (hf : freeO sl d = true := by exact fro) (hn : noL q sl = true := by first | exact rfl | simp [noL, Nm.isLoc, addL, delL]) (hb8 : bytT T e = some 8 := by exact rfl) :
    aw P mu N ops Q (⟨some d, .call ⟨.builtin .append, as, tys⟩, ty, pos, after, none⟩ :: l) ⟨lk' fl, ov sl (pushS S)⟩ := by
  intro hb B w ρ a hd hn' hi
  have hfd := freeO_lk hf
  have hdq : d ≠ q := fun h => by subst h; rw [hfd] at hm; cases hm
  have hu := hT.und hu
  have hc1 := hT.cel hc1 (by simp)
  have hz := hT.zer hz
  have hb8 := hT.byt hb8
  refine wpList_step fun K hK => ?_
  simp only [Region.wanted, if_true]
  have ea : as = #[s, x] := by rw [← Array.toList_inj]; simpa using ha
  have et : tys = #[t, t] := by rw [← Array.toList_inj]; simpa using ht
  have hvs := hi.sim.look s
  rw [opO_look hs] at hvs
  have hvx := hi.sim.look x
  rw [opO_look hx] at hvx
  have hexec : ∀ {u w'}, (Builtin.append_ #[t, t] ty #[a.eval s, a.eval x]).run P w = .ok u w' → (execOp a.eval ⟨some d, .call ⟨.builtin .append, as, tys⟩, ty, pos, after, none⟩).run P w = .ok (.value u) w' := by
    intro u w' hrun
    simp [execOp, resolve, ea, et, invoke, builtin, hrun]
  have hdl : ∀ t, some d = some t → t < a.tmps.size := fun t ht => by rw [hn']; exact hb _ List.mem_cons_self t ht
  have hS : ov sl (pushS S) (.loc q) = some (.ints e k L) := ov_of hm
  obtain ⟨-, A, cap, ev, q1, q2, q3⟩ := hvs
  rcases srcE_held hi.sim.env hvx hY with ⟨rfl, -⟩ | ⟨hYne, b, off, c, ex, hcell⟩
  · simp at hlen
  obtain ⟨rfl, ty2, sz, ⟨cur2, g1, g2⟩, g3⟩ := q3 (by omega)
  obtain ⟨cur, f1, f2⟩ := hi.sim.env.obj (.loc q) _ hS
  rw [f1] at g1
  injection g1 with g1
  injection g1 with g1 g4
  subst g1 g4
  cases ei : P.info? e with
  | none => simp [zeroOf, ei] at hz
  | some i =>
    have hz' : i.zero = some (.int k 0) := by simpa [zeroOf, ei] using hz
    have hsz : i.size = 1 := by simpa [Program.cellsOf, ei] using hc1
    have hby : i.bytes = 8 := by rw [← hb8]; simp [Program.bytesOf, ei]
    have hsrc : ∀ j u, (Y.map (Value.int k))[j]? = some u → w.cell? ((⟨b, off, none⟩ : Addr).add j) = some u := fun j u hj => by rw [add_pl]; exact hcell j u hj
    have hold : ∀ j y, j < len → L[j]? = some y → cur[j]? = some (Value.int k y) := fun j y _ hj => f2 j y hj
    have hcur : len ≤ cur.size := by omega
    unfold Oper.wp
    by_cases hroom : len + Y.length ≤ cap
    · have hrun := run_append_room (P := P) w t ty e i hu ei (ρ (.loc q)) len cap cur f1 ⟨b, off, none⟩ Y.length c (Y.map (Value.int k)) (by simp [hsz]) hsrc
        (fun u hu => by simp at hu; obtain ⟨y, -, rfl⟩ := hu; rfl) hroom (by simp [hsz]; omega)
      rw [hexec (by rw [ev, ex]; exact hrun)]
      have hput := Put.of_setRow f1 (cur.toList.take (len * i.size) ++ Y.map (Value.int k) ++ cur.toList.drop (len * i.size + (Y.map (Value.int k)).length)).toArray
      have hsize : (cur.toList.take (len * i.size) ++ Y.map (Value.int k) ++ cur.toList.drop (len * i.size + (Y.map (Value.int k)).length)).toArray.size = cur.size := by
        simp [hsz]; omega
      have hext := hput.ext (o' := .ints e k (L.take len ++ Y)) hS rfl rfl f1 hsize
      have henv := hput.env (o' := .ints e k (L.take len ++ Y)) hi.sim.env hS rfl rfl f1 hsize ⟨_, hput.at_, fun j y hj => by
        simp only [hsz, Nat.mul_one, List.length_map, List.getElem?_toArray]
        rw [List.append_assoc]
        rcases Nat.lt_or_ge j len with h | h
        · rw [List.getElem?_append_left (by simp; omega), List.getElem?_take_of_lt h] at hj
          rw [List.getElem?_append_left (by simp; omega), List.getElem?_take_of_lt h]
          simpa using f2 j y hj
        · rw [List.getElem?_append_right (by simp; omega), List.length_take, Nat.min_eq_left (by omega)] at hj
          rw [List.getElem?_append_right (by simp; omega), List.length_take, Nat.min_eq_left (by simp; omega)]
          have h' : j - len < Y.length := by
            rcases Nat.lt_or_ge (j - len) Y.length with g | g
            · exact g
            · rw [List.getElem?_eq_none g] at hj; cases hj
          rw [List.getElem?_append_left (by simpa using h'), List.getElem?_map, hj]; rfl⟩
      have hval : VS _ ρ (upd (ov sl (pushS S)) (.loc q) (.ints e k (L.take len ++ Y))) (.c (.win (.loc q) 0 (len + Y.length) (len + Y.length))) (.slice (some ⟨ρ (.loc q), 0, none⟩) (len + Y.length) cap) :=
        ⟨⟨_, upd_same _ _ _, rfl⟩, _, cap, rfl, Nat.le_refl _, hroom, fun _ => ⟨rfl, e, _, ⟨_, hput.at_, hsize⟩, by omega⟩⟩
      have hs1 := hi.sim.put (d := some d) henv hext (lk' fl) (fun t => .inr ⟨rfl, fun _ hX => hX.elim⟩) hdl hval
      rw [putF_lk, upd_ov] at hs1
      rw [upd_ov] at hext
      have hi1 := hi.step hs1 hext (fun _ h => h.elim)
      exact hK _ _ (aw_weak _ (Weak.renq (ob := .ints e k (L.take len ++ Y)) ints_nm0 hf hdq hn 0 (len + Y.length) (len + Y.length)) h (fun o ho => hb o (by simp [ho])) B _ ρ _ (by rw [put_defers]; exact hd) (by rw [put_size]; exact hn') hi1)
    · have hgrow : Builtin.nextslicecap (len + Y.length) cap * i.bytes ≤ 281474976710656 := growslice_fits (by omega) (by rw [hby]; omega)
      have hlL : (L.take len).length = len := by simp; omega
      have hrun := run_append_grow (P := P) w t ty e i (.int k 0) hu ei hz' ⟨ρ (.loc q), 0, none⟩ len cap ((L.take len).map (Value.int k)) (by simp [hsz]; omega)
        (fun j v hj => by
          rw [add_pl, Nat.zero_add, cell_of_heap f1]
          rw [List.getElem?_map, Option.map_eq_some_iff] at hj
          obtain ⟨y, hy, rfl⟩ := hj
          have hjl : j < len := by
            rcases Nat.lt_or_ge j len with g | g
            · exact g
            · rw [List.getElem?_eq_none (by omega)] at hy; cases hy
          rw [List.getElem?_take_of_lt hjl] at hy
          exact f2 j y hy) ⟨b, off, none⟩ Y.length c (Y.map (Value.int k)) (by simp [hsz]) hsrc (by omega) (by omega) hgrow
      rw [hexec (by rw [ev, ex]; exact hrun)]
      have hcap := grownCap_ge w (len + Y.length) cap e
      obtain ⟨G, hG⟩ : ∃ G, G = grownCap w (len + Y.length) cap e := ⟨_, rfl⟩
      rw [← hG] at hcap ⊢
      obtain ⟨vs, hvs⟩ : ∃ vs, vs = ((L.take len).map (Value.int k)).toArray ++ (Y.map (Value.int k)).toArray ++ Builtin.zeroCells (Value.int k 0).cells (G - (len + Y.length)) := ⟨_, rfl⟩
      rw [← hvs]
      have hvsz : vs.size = G := by
        have e1 : (Value.int k 0).cells.size = 1 := rfl
        rw [hvs]; simp [size_zeroCells, e1]; omega
      have hnew : New w (w.drew.alloc (.cells vs e)) (.loc d) (.cells vs e) := ⟨rfl, rfl, rfl, by simp, fun b h => heap_alloc_old w.drew _ h, heap_alloc_at w.drew _⟩
      have hSd : ov sl (pushS S) (.loc d) = none := freeO_spec hf
      have hrow : RowS (w.drew.alloc (.cells vs e)) w.heap.size e k (L.take len ++ Y) := ⟨vs, hnew.new, fun j y hj => by
        rw [hvs, Array.getElem?_append_left (by
          have : j < (L.take len ++ Y).length := by
            rcases Nat.lt_or_ge j (L.take len ++ Y).length with g | g
            · exact g
            · rw [List.getElem?_eq_none g] at hj; cases hj
          simp at this ⊢; omega)]
        rw [List.append_toArray, ← List.map_append, List.getElem?_toArray, List.getElem?_map, hj]; rfl⟩
      have hext := hnew.ext hi.sim.env hSd (.ints e k (L.take len ++ Y))
      have henv := hnew.env hi.sim.env hSd (ob := .ints e k (L.take len ++ Y)) hrow
      have hval : VS (w.drew.alloc (.cells vs e)) (setN ρ (.loc d) w.heap.size) (upd (ov sl (pushS S)) (.loc d) (.ints e k (L.take len ++ Y))) (.c (.win (.loc d) 0 (len + Y.length) (len + Y.length))) (.slice (some ⟨w.heap.size, 0, none⟩) (len + Y.length) G) :=
        ⟨⟨_, upd_same _ _ _, rfl⟩, _, G, rfl, Nat.le_refl _, hcap, fun _ => ⟨by simp [setN], e, _, ⟨vs, by simp only [setN, if_true]; exact hnew.new, rfl⟩, by omega⟩⟩
      have hs1 := hi.sim.put (d := some d) henv hext (lk' fl) (fun t => .inr ⟨rfl, fun _ hX => hX.elim⟩) hdl hval
      rw [putF_lk, upd_ov] at hs1
      rw [upd_ov] at hext
      have hi1 := hi.step hs1 hext (fun _ h => h.elim)
      have hn2 : noL q ((.loc d, .ints e k (L.take len ++ Y)) :: sl) = true := by simpa [noL] using hn
      have hw := Weak.dropq (fl := (d, .c (.win (.loc d) 0 (len + Y.length) (len + Y.length))) :: fl) (S := S) hn2
      have e1 : delL q ((Nm.loc d, AObj.ints e k (L.take len ++ Y)) :: sl) = (.loc d, .ints e k (L.take len ++ Y)) :: delL q sl := by
        have : Nat.beq d q = false := by
          cases e : Nat.beq d q with
          | false => rfl
          | true => exact absurd (Nat.eq_of_beq_eq_true e) hdq
        simp [delL, Nm.isLoc, this]
      rw [e1, List.map_cons, kilV_win hdq] at hw
      exact hK _ _ (aw_weak _ hw h (fun o ho => hb o (by simp [ho])) B _ _ _ (by rw [put_defers]; exact hd) (by rw [put_size]; exact hn') hi1)
end
end Go.Abs

/-
  Steps told in natural numbers.
-/
namespace Go.Abs
open Go

theorem nats_get (l : List Nat) (j : Nat) : (l.map fun n : Nat => Int.ofNat n).getD j 0 = ((l.getD j 0 : Nat) : Int) := by
  rw [List.getD_eq_getElem?_getD, List.getD_eq_getElem?_getD, List.getElem?_map]
  cases l[j]? <;> rfl

section
variable {A B : Store}
theorem lW {m : Nm} {off len cm : Nat} {ty : TypeId} {k : IntKind} {L L' : List Int} (hm : A m = some (.ints ty k L)) (hb : B m = none) (hl : off + len ≤ L.length) (e : (L.drop off).take len = L') : FrzC0 A B (.win m off len cm) (.ints k L') := .win hm hb hl e.symm
theorem kP2 {m : Nm} {off : Nat} {ty : TypeId} {cs r : List Cell} {x1 x2 : Cell} {l1 l2 : Leaf} (hm : A m = some (.cells ty cs)) (hb : B m = none) (hd : cs.drop off = x1 :: x2 :: r) (h1 : FrzC0 A B x1 l1.cell) (h2 : FrzC0 A B x2 l2.cell) :
    FrzV A B (.c (.ptr m off)) (.c (.pim [l1, l2])) := kP hm hb (by rw [hd]; exact ⟨h1, h2, by cases r <;> exact True.intro⟩)
theorem kP3 {m : Nm} {off : Nat} {ty : TypeId} {cs r : List Cell} {x1 x2 x3 : Cell} {l1 l2 l3 : Leaf} (hm : A m = some (.cells ty cs)) (hb : B m = none) (hd : cs.drop off = x1 :: x2 :: x3 :: r) (h1 : FrzC0 A B x1 l1.cell) (h2 : FrzC0 A B x2 l2.cell) (h3 : FrzC0 A B x3 l3.cell) :
    FrzV A B (.c (.ptr m off)) (.c (.pim [l1, l2, l3])) := kP hm hb (by rw [hd]; exact ⟨h1, h2, h3, by cases r <;> exact True.intro⟩)
end

section
variable {P : Program} {T : TT} {mu : FuncId → Bool} {N : Nat} {ops : Array Oper} {fl : FL} {sl : SL} {S S' : Store} {K : St → Prop}
  {d : Nat} {ty : TypeId} {pos : String} {after : Array Edge}

theorem zn1 {t e : TypeId} {x i : Operand} {k ki : IntKind} {l : List Nat} {j : Nat} (hT : TOk P T) (kk : K ⟨lk' ((d, .c (.pim [.sc (.int k ((l.getD j 0 : Nat) : Int))])) :: fl), S'⟩)
    (ht : undT T t = some (.slice e) := by exact rfl) (hc : celT T e = 1 := by exact rfl) (hx : opO fl x = some (.c (.ints k (l.map fun n : Nat => Int.ofNat n))) := by exact rfl) (hi : opO fl i = some (ivl ki (j : Int)) := by exact rfl) (h : j < l.length := by first | exact True.intro | omega | (simp only [and_true, List.length_map, List.length_replicate, List.length_set, List.length_append, List.length_cons, List.length_nil, List.length_take, List.length_drop] at *; omega)) :
    Stp P mu ops ⟨some d, .indexAddr t x i, ty, pos, after, none⟩ ⟨lk' fl, S'⟩ K := by
  refine stp_pure hT true (v := .c (.pim [.sc (.int k ((l.map fun n : Nat => Int.ofNat n).getD (j : Int).toNat 0))])) (C := 0 ≤ (j : Int) ∧ (j : Int) < (l.map fun n : Nat => Int.ofNat n).length) (by simp only [evP, evF, evP0, ht, hc, hx, hi]) ⟨by omega, by rw [List.length_map]; omega⟩ ?_
  rw [nats_get]; exact kk
theorem zn2 {t e : TypeId} {x i : Operand} {k ki : IntKind} {l : List Nat} {j : Int} (hT : TOk P T) (kk : K ⟨lk' ((d, .c (.pim [.sc (.int k ((l.getD j.toNat 0 : Nat) : Int))])) :: fl), S'⟩)
    (ht : undT T t = some (.slice e) := by exact rfl) (hc : celT T e = 1 := by exact rfl) (hx : opO fl x = some (.c (.ints k (l.map fun n : Nat => Int.ofNat n))) := by exact rfl) (hi : opO fl i = some (ivl ki j) := by exact rfl) (h : 0 ≤ j ∧ j < l.length := by first | exact True.intro | omega | (simp only [and_true, List.length_map, List.length_replicate, List.length_set, List.length_append, List.length_cons, List.length_nil, List.length_take, List.length_drop] at *; omega)) :
    Stp P mu ops ⟨some d, .indexAddr t x i, ty, pos, after, none⟩ ⟨lk' fl, S'⟩ K := by
  refine stp_pure hT true (v := .c (.pim [.sc (.int k ((l.map fun n : Nat => Int.ofNat n).getD j.toNat 0))])) (C := 0 ≤ j ∧ j < (l.map fun n : Nat => Int.ofNat n).length) (by simp only [evP, evF, evP0, ht, hc, hx, hi]) ⟨h.1, by rw [List.length_map]; omega⟩ ?_
  rw [nats_get]; exact kk
theorem zn3 {t e : TypeId} {x i : Operand} {ki : IntKind} {m : Nm} {len cm : Nat} {j : Nat} (hT : TOk P T) (kk : K ⟨lk' ((d, .c (.ptr m j)) :: fl), S'⟩)
    (ht : undT T t = some (.slice e) := by exact rfl) (hc : celT T e = 1 := by exact rfl) (hx : opO fl x = some (.c (.win m 0 len cm)) := by exact rfl) (hi : opO fl i = some (ivl ki (j : Int)) := by exact rfl) (h : j < len := by first | exact True.intro | omega | (simp only [and_true, List.length_map, List.length_replicate, List.length_set, List.length_append, List.length_cons, List.length_nil, List.length_take, List.length_drop] at *; omega)) :
    Stp P mu ops ⟨some d, .indexAddr t x i, ty, pos, after, none⟩ ⟨lk' fl, S'⟩ K := by
  refine stp_pure hT true (v := .c (.ptr m (0 + (j : Int).toNat))) (C := 0 ≤ (j : Int) ∧ (j : Int) < len) (by simp only [evP, evF, evP0, ht, hc, hx, hi]) ⟨by omega, by omega⟩ ?_
  rw [Nat.zero_add]; exact kk
theorem zn4 {t ty' : TypeId} {x : Operand} {k : IntKind} {m : Nm} {off : Nat} {l : List Nat} (hT : TOk P T) (kk : K ⟨lk' ((d, ivl k ((l.getD off 0 : Nat) : Int)) :: fl), ov sl S⟩)
    (hx : opO fl x = some (.c (.ptr m off)) := by exact rfl) (ha : agT T t = some false := by exact rfl) (hm : lkS sl m = some (.ints ty' k (l.map fun n : Nat => Int.ofNat n)) := by exact lks) (h : off < l.length := by first | exact True.intro | omega | (simp only [and_true, List.length_map, List.length_replicate, List.length_set, List.length_append, List.length_cons, List.length_nil, List.length_take, List.length_drop] at *; omega)) :
    Stp P mu ops ⟨some d, .load t x, ty, pos, after, none⟩ ⟨lk' fl, ov sl S⟩ K := by
  refine stp_load hT hx ha hm (y := .sc (.int k ((l.map fun n : Nat => Int.ofNat n).getD off 0))) (C := off < (l.map fun n : Nat => Int.ofNat n).length) rfl (by rw [List.length_map]; exact h) ?_
  rw [nats_get]; exact kk
theorem zn5 {t ty' : TypeId} {x y : Operand} {k : IntKind} {m : Nm} {off v : Nat} {l : List Nat} (hT : TOk P T) (kk : K ⟨lk' fl, ov ((m, .ints ty' k ((l.set off v).map fun n : Nat => Int.ofNat n)) :: sl) S⟩)
    (hx : opO fl x = some (.c (.ptr m off)) := by exact rfl) (hy : opO fl y = some (ivl k (v : Int)) := by exact rfl) (hc : celT T t = 1 := by exact rfl) (hm : lkS sl m = some (.ints ty' k (l.map fun n : Nat => Int.ofNat n)) := by exact lks) (h : off < l.length := by first | exact True.intro | omega | (simp only [and_true, List.length_map, List.length_replicate, List.length_set, List.length_append, List.length_cons, List.length_nil, List.length_take, List.length_drop] at *; omega)) :
    Stp P mu ops ⟨none, .store t x y, ty, pos, after, none⟩ ⟨lk' fl, ov sl S⟩ K := by
  refine stp_store hT hx hy hm (o' := .ints ty' k ((l.map fun n : Nat => Int.ofNat n).set off (v : Int))) (C := off < (l.map fun n : Nat => Int.ofNat n).length) ?_ (by rw [List.length_map]; exact h) ?_
  · cases k <;> simp [putO, hc, kEq]
  · rw [show (v : Int) = Int.ofNat v from rfl, ← List.map_set]; exact kk
theorem zn6 {t0 t1 : TypeId} {x y : Operand} {m n : Nat} (hT : TOk P T) (kk : K ⟨lk' ((d, ivl .u64 ((m + n : Nat) : Int)) :: fl), S'⟩) (hx : opO fl x = some (ivl .u64 (m : Int)) := by exact rfl) (hy : opO fl y = some (ivl .u64 (n : Int)) := by exact rfl) (h : m + n < 18446744073709551616 := by first | exact True.intro | omega | (simp only [and_true, List.length_map, List.length_replicate, List.length_set, List.length_append, List.length_cons, List.length_nil, List.length_take, List.length_drop] at *; omega)) :
    Stp P mu ops ⟨some d, .binOp .add t0 x y t1, ty, pos, after, none⟩ ⟨lk' fl, S'⟩ K := by
  refine stp_pure hT true (v := ivl .u64 ((m : Int) + n)) (C := (0 ≤ (m : Int) + n ∧ (m : Int) + n < 18446744073709551616) ∧ True) (by simp only [evP, evF, evP0, hx, hy]; rfl) ⟨⟨by omega, by omega⟩, trivial⟩ ?_
  rw [← Int.natCast_add]; exact kk
theorem zn7 {t0 t1 : TypeId} {x y : Operand} {m n : Nat} (hT : TOk P T) (kk : K ⟨lk' ((d, ivl .u64 ((m - n : Nat) : Int)) :: fl), S'⟩) (hx : opO fl x = some (ivl .u64 (m : Int)) := by exact rfl) (hy : opO fl y = some (ivl .u64 (n : Int)) := by exact rfl) (h : n ≤ m ∧ m < 18446744073709551616 := by first | exact True.intro | omega | (simp only [and_true, List.length_map, List.length_replicate, List.length_set, List.length_append, List.length_cons, List.length_nil, List.length_take, List.length_drop] at *; omega)) :
    Stp P mu ops ⟨some d, .binOp .sub t0 x y t1, ty, pos, after, none⟩ ⟨lk' fl, S'⟩ K := by
  refine stp_pure hT true (v := ivl .u64 ((m : Int) - n)) (C := (0 ≤ (m : Int) - n ∧ (m : Int) - n < 18446744073709551616) ∧ True) (by simp only [evP, evF, evP0, hx, hy]; rfl) ⟨⟨by omega, by omega⟩, trivial⟩ ?_
  rw [← Int.natCast_sub h.1]; exact kk
theorem zn8 {t0 t1 : TypeId} {x y : Operand} {m n : Nat} (hT : TOk P T) (kk : K ⟨lk' ((d, ivl .i64 ((m + n : Nat) : Int)) :: fl), S'⟩) (hx : opO fl x = some (ivl .i64 (m : Int)) := by exact rfl) (hy : opO fl y = some (ivl .i64 (n : Int)) := by exact rfl) (h : m + n < 9223372036854775808 := by first | exact True.intro | omega | (simp only [and_true, List.length_map, List.length_replicate, List.length_set, List.length_append, List.length_cons, List.length_nil, List.length_take, List.length_drop] at *; omega)) :
    Stp P mu ops ⟨some d, .binOp .add t0 x y t1, ty, pos, after, none⟩ ⟨lk' fl, S'⟩ K := by
  refine stp_pure hT true (v := ivl .i64 ((m : Int) + n)) (C := (-9223372036854775808 ≤ (m : Int) + n ∧ (m : Int) + n < 9223372036854775808) ∧ True) (by simp only [evP, evF, evP0, hx, hy]; rfl) ⟨⟨by omega, by omega⟩, trivial⟩ ?_
  rw [← Int.natCast_add]; exact kk
theorem zn9 {t0 t1 : TypeId} {x y : Operand} {m n : Nat} (hT : TOk P T) (kk : K ⟨lk' ((d, ivl .u64 ((m * n : Nat) : Int)) :: fl), S'⟩) (hx : opO fl x = some (ivl .u64 (m : Int)) := by exact rfl) (hy : opO fl y = some (ivl .u64 (n : Int)) := by exact rfl) (h : m * n < 18446744073709551616 := by first | exact True.intro | omega | (simp only [and_true, List.length_map, List.length_replicate, List.length_set, List.length_append, List.length_cons, List.length_nil, List.length_take, List.length_drop] at *; omega)) :
    Stp P mu ops ⟨some d, .binOp .mul t0 x y t1, ty, pos, after, none⟩ ⟨lk' fl, S'⟩ K := by
  refine stp_mulN m n hx hy rfl rfl h kk
theorem zn10 {t0 t1 : TypeId} {x y : Operand} {m n : Nat} (hT : TOk P T) (kk : K ⟨lk' ((d, ivl .i64 ((m / n : Nat) : Int)) :: fl), S'⟩) (hx : opO fl x = some (ivl .i64 (m : Int)) := by exact rfl) (hy : opO fl y = some (ivl .i64 (n : Int)) := by exact rfl) (h : m < 9223372036854775808 ∧ n ≠ 0 := by first | exact True.intro | omega | (simp only [and_true, List.length_map, List.length_replicate, List.length_set, List.length_append, List.length_cons, List.length_nil, List.length_take, List.length_drop] at *; omega)) :
    Stp P mu ops ⟨some d, .binOp .quo t0 x y t1, ty, pos, after, none⟩ ⟨lk' fl, S'⟩ K := by
  refine stp_of hx hy ?_ kk
  simp only [binE, isShift]
  have hle := Nat.div_le_self m n
  refine ⟨trivial, show (n : Int) ≠ 0 ∧ _ = ivl .i64 (IntKind.i64.wrap ((m : Int).tdiv n)) from ⟨by omega, ?_⟩⟩
  rw [Int.tdiv_eq_ediv_of_nonneg (Int.natCast_nonneg _), ← Int.natCast_ediv]
  have e : IntKind.i64.wrap ((m / n : Nat) : Int) = ((m / n : Nat) : Int) := by rw [IntKind.wrap_i64]; generalize m / n = q at *; omega
  rw [e]
theorem zn11 {t0 t1 : TypeId} {x y : Operand} {m n : Nat} (hT : TOk P T) (kk : K ⟨lk' ((d, ivl .i64 ((m % n : Nat) : Int)) :: fl), S'⟩) (hx : opO fl x = some (ivl .i64 (m : Int)) := by exact rfl) (hy : opO fl y = some (ivl .i64 (n : Int)) := by exact rfl) (h : n ≠ 0 := by first | exact True.intro | omega | (simp only [and_true, List.length_map, List.length_replicate, List.length_set, List.length_append, List.length_cons, List.length_nil, List.length_take, List.length_drop] at *; omega)) :
    Stp P mu ops ⟨some d, .binOp .rem t0 x y t1, ty, pos, after, none⟩ ⟨lk' fl, S'⟩ K := by
  refine stp_of hx hy ?_ kk
  simp only [binE, isShift]
  refine ⟨trivial, show (n : Int) ≠ 0 ∧ _ = ivl .i64 ((m : Int).tmod n) from ⟨by omega, ?_⟩⟩
  rw [Int.tmod_eq_emod_of_nonneg (Int.natCast_nonneg _), ← Int.natCast_emod]
theorem zn12 {t e : TypeId} {x : Operand} {as : Array Operand} {tys : Array TypeId} {k : IntKind} {l : List Nat} (hT : TOk P T) (kk : K ⟨lk' ((d, ivl .i64 (l.length : Int)) :: fl), S'⟩)
    (ha : as.toList = [x] := by exact rfl) (hb : tys.toList = [t] := by exact rfl) (ht : undT T t = some (.slice e) := by exact rfl) (hx : opO fl x = some (.c (.ints k (l.map fun n : Nat => Int.ofNat n))) := by exact rfl) :
    Stp P mu ops ⟨some d, .call ⟨.builtin .len, as, tys⟩, ty, pos, after, none⟩ ⟨lk' fl, S'⟩ K := by
  refine stp_pure hT true (v := ivl .i64 ((l.map fun n : Nat => Int.ofNat n).length : Int)) (C := True) (by simp only [evP, evF, evP0, ha, hb, ht, hx, lenF]) trivial ?_
  rw [List.length_map]; exact kk
theorem s_makeA8 {t e : TypeId} {l c : Operand} {b : Nat} {ka kb k : IntKind} (hT : TOk P T) (kk : K ⟨lk' ((d, .accv (.loc d) b) :: fl), ov ((.loc d, .accI e k (List.replicate b 0)) :: sl) (pushS S)⟩) (hb : b ≤ 35184372088832)
    (ht : undT T t = some (.slice e) := by exact rfl) (hc1 : celT T e = 1 := by exact rfl) (hb8 : bytT T e = some 8 := by exact rfl) (hz : zerF T e = some [.sc (.int k 0)] := by exact rfl)
    (hl : opO fl l = some (ivl ka (b : Int)) := by exact rfl) (hc : opO fl c = some (ivl kb (b : Int)) := by exact rfl) (hf : freeO sl d = true := by exact fro) :
    Stp P mu ops ⟨some d, .makeSlice t l c, ty, pos, after, none⟩ ⟨lk' fl, ov sl (pushS S)⟩ K := s_makeA (a := (b : Int)) (b := (b : Int)) hT rfl ⟨by omega, by omega, by omega⟩ (by rw [Int.toNat_natCast]; exact kk) ht hc1 hb8 hz hl hc hf

theorem zc1 {t0 t1 : TypeId} {x : Operand} {m n : Nat} (hT : TOk P T) (kk : K ⟨lk' ((d, ivl .u64 ((m + (@OfNat.ofNat Nat n (instOfNatNat n)) : Nat) : Int)) :: fl), S'⟩) (hx : opO fl x = some (ivl .u64 (m : Int)) := by exact rfl) (h : m + (@OfNat.ofNat Nat n (instOfNatNat n)) < 18446744073709551616 := by first | exact True.intro | omega | (simp only [and_true, List.length_map, List.length_replicate, List.length_set, List.length_append, List.length_cons, List.length_nil, List.length_take, List.length_drop] at *; omega)) :
    Stp P mu ops ⟨some d, .binOp .add t0 x (.const (.int .u64 (@OfNat.ofNat Int n instOfNat))) t1, ty, pos, after, none⟩ ⟨lk' fl, S'⟩ K := zn6 (m := m) (n := (@OfNat.ofNat Nat n (instOfNatNat n))) hT kk hx rfl h
theorem zc2 {t0 t1 : TypeId} {y : Operand} {m n : Nat} (hT : TOk P T) (kk : K ⟨lk' ((d, ivl .u64 (((@OfNat.ofNat Nat m (instOfNatNat m)) + n : Nat) : Int)) :: fl), S'⟩) (hy : opO fl y = some (ivl .u64 (n : Int)) := by exact rfl) (h : (@OfNat.ofNat Nat m (instOfNatNat m)) + n < 18446744073709551616 := by first | exact True.intro | omega | (simp only [and_true, List.length_map, List.length_replicate, List.length_set, List.length_append, List.length_cons, List.length_nil, List.length_take, List.length_drop] at *; omega)) :
    Stp P mu ops ⟨some d, .binOp .add t0 (.const (.int .u64 (@OfNat.ofNat Int m instOfNat))) y t1, ty, pos, after, none⟩ ⟨lk' fl, S'⟩ K := zn6 (m := (@OfNat.ofNat Nat m (instOfNatNat m))) (n := n) hT kk rfl hy h
theorem zc3 {t0 t1 : TypeId} {x : Operand} {m n : Nat} (hT : TOk P T) (kk : K ⟨lk' ((d, ivl .i64 ((m + (@OfNat.ofNat Nat n (instOfNatNat n)) : Nat) : Int)) :: fl), S'⟩) (hx : opO fl x = some (ivl .i64 (m : Int)) := by exact rfl) (h : m + (@OfNat.ofNat Nat n (instOfNatNat n)) < 9223372036854775808 := by first | exact True.intro | omega | (simp only [and_true, List.length_map, List.length_replicate, List.length_set, List.length_append, List.length_cons, List.length_nil, List.length_take, List.length_drop] at *; omega)) :
    Stp P mu ops ⟨some d, .binOp .add t0 x (.const (.int .i64 (@OfNat.ofNat Int n instOfNat))) t1, ty, pos, after, none⟩ ⟨lk' fl, S'⟩ K := zn8 (m := m) (n := (@OfNat.ofNat Nat n (instOfNatNat n))) hT kk hx rfl h
theorem zc4 {t0 t1 : TypeId} {y : Operand} {m n : Nat} (hT : TOk P T) (kk : K ⟨lk' ((d, ivl .u64 (((@OfNat.ofNat Nat m (instOfNatNat m)) - n : Nat) : Int)) :: fl), S'⟩) (hy : opO fl y = some (ivl .u64 (n : Int)) := by exact rfl) (h : n ≤ (@OfNat.ofNat Nat m (instOfNatNat m)) ∧ (@OfNat.ofNat Nat m (instOfNatNat m)) < 18446744073709551616 := by first | exact True.intro | omega | (simp only [and_true, List.length_map, List.length_replicate, List.length_set, List.length_append, List.length_cons, List.length_nil, List.length_take, List.length_drop] at *; omega)) :
    Stp P mu ops ⟨some d, .binOp .sub t0 (.const (.int .u64 (@OfNat.ofNat Int m instOfNat))) y t1, ty, pos, after, none⟩ ⟨lk' fl, S'⟩ K := zn7 (m := (@OfNat.ofNat Nat m (instOfNatNat m))) (n := n) hT kk rfl hy h
theorem zc5 {t0 t1 : TypeId} {x : Operand} {m n : Nat} (hT : TOk P T) (kk : K ⟨lk' ((d, ivl .u64 ((m - (@OfNat.ofNat Nat n (instOfNatNat n)) : Nat) : Int)) :: fl), S'⟩) (hx : opO fl x = some (ivl .u64 (m : Int)) := by exact rfl) (h : (@OfNat.ofNat Nat n (instOfNatNat n)) ≤ m ∧ m < 18446744073709551616 := by first | exact True.intro | omega | (simp only [and_true, List.length_map, List.length_replicate, List.length_set, List.length_append, List.length_cons, List.length_nil, List.length_take, List.length_drop] at *; omega)) :
    Stp P mu ops ⟨some d, .binOp .sub t0 x (.const (.int .u64 (@OfNat.ofNat Int n instOfNat))) t1, ty, pos, after, none⟩ ⟨lk' fl, S'⟩ K := zn7 (m := m) (n := (@OfNat.ofNat Nat n (instOfNatNat n))) hT kk hx rfl h
theorem zc6 {t0 t1 : TypeId} {y : Operand} {m n : Nat} (hT : TOk P T) (kk : K ⟨lk' ((d, ivl .u64 (((@OfNat.ofNat Nat m (instOfNatNat m)) * n : Nat) : Int)) :: fl), S'⟩) (hy : opO fl y = some (ivl .u64 (n : Int)) := by exact rfl) (h : (@OfNat.ofNat Nat m (instOfNatNat m)) * n < 18446744073709551616 := by first | exact True.intro | omega | (simp only [and_true, List.length_map, List.length_replicate, List.length_set, List.length_append, List.length_cons, List.length_nil, List.length_take, List.length_drop] at *; omega)) :
    Stp P mu ops ⟨some d, .binOp .mul t0 (.const (.int .u64 (@OfNat.ofNat Int m instOfNat))) y t1, ty, pos, after, none⟩ ⟨lk' fl, S'⟩ K := zn9 (m := (@OfNat.ofNat Nat m (instOfNatNat m))) (n := n) hT kk rfl hy h
theorem zc7 {t0 t1 : TypeId} {x : Operand} {m n : Nat} (hT : TOk P T) (kk : K ⟨lk' ((d, ivl .u64 ((m * (@OfNat.ofNat Nat n (instOfNatNat n)) : Nat) : Int)) :: fl), S'⟩) (hx : opO fl x = some (ivl .u64 (m : Int)) := by exact rfl) (h : m * (@OfNat.ofNat Nat n (instOfNatNat n)) < 18446744073709551616 := by first | exact True.intro | omega | (simp only [and_true, List.length_map, List.length_replicate, List.length_set, List.length_append, List.length_cons, List.length_nil, List.length_take, List.length_drop] at *; omega)) :
    Stp P mu ops ⟨some d, .binOp .mul t0 x (.const (.int .u64 (@OfNat.ofNat Int n instOfNat))) t1, ty, pos, after, none⟩ ⟨lk' fl, S'⟩ K := zn9 (m := m) (n := (@OfNat.ofNat Nat n (instOfNatNat n))) hT kk hx rfl h
theorem zc8 {t0 t1 : TypeId} {x : Operand} {m n : Nat} (hT : TOk P T) (kk : K ⟨lk' ((d, ivl .u64 ((m % (@OfNat.ofNat Nat n (instOfNatNat n)) : Nat) : Int)) :: fl), S'⟩) (hx : opO fl x = some (ivl .u64 (m : Int)) := by exact rfl) (h : (@OfNat.ofNat Nat n (instOfNatNat n)) ≠ 0 := by first | exact True.intro | omega | (simp only [and_true, List.length_map, List.length_replicate, List.length_set, List.length_append, List.length_cons, List.length_nil, List.length_take, List.length_drop] at *; omega)) :
    Stp P mu ops ⟨some d, .binOp .rem t0 x (.const (.int .u64 (@OfNat.ofNat Int n instOfNat))) t1, ty, pos, after, none⟩ ⟨lk' fl, S'⟩ K := zg6 (m := m) (n := (@OfNat.ofNat Nat n (instOfNatNat n))) hT kk hx rfl h
theorem zc9 {t0 t1 : TypeId} {x : Operand} {m n : Nat} (hT : TOk P T) (kk : K ⟨lk' ((d, ivl .u64 ((m / (@OfNat.ofNat Nat n (instOfNatNat n)) : Nat) : Int)) :: fl), S'⟩) (hx : opO fl x = some (ivl .u64 (m : Int)) := by exact rfl) (h : m < 18446744073709551616 ∧ (@OfNat.ofNat Nat n (instOfNatNat n)) ≠ 0 := by first | exact True.intro | omega | (simp only [and_true, List.length_map, List.length_replicate, List.length_set, List.length_append, List.length_cons, List.length_nil, List.length_take, List.length_drop] at *; omega)) :
    Stp P mu ops ⟨some d, .binOp .quo t0 x (.const (.int .u64 (@OfNat.ofNat Int n instOfNat))) t1, ty, pos, after, none⟩ ⟨lk' fl, S'⟩ K := zg5 (m := m) (n := (@OfNat.ofNat Nat n (instOfNatNat n))) hT kk hx rfl h
theorem zc10 {t0 t1 : TypeId} {x : Operand} {m n : Nat} (hT : TOk P T) (kk : K ⟨lk' ((d, ivl .i64 ((m % (@OfNat.ofNat Nat n (instOfNatNat n)) : Nat) : Int)) :: fl), S'⟩) (hx : opO fl x = some (ivl .i64 (m : Int)) := by exact rfl) (h : (@OfNat.ofNat Nat n (instOfNatNat n)) ≠ 0 := by first | exact True.intro | omega | (simp only [and_true, List.length_map, List.length_replicate, List.length_set, List.length_append, List.length_cons, List.length_nil, List.length_take, List.length_drop] at *; omega)) :
    Stp P mu ops ⟨some d, .binOp .rem t0 x (.const (.int .i64 (@OfNat.ofNat Int n instOfNat))) t1, ty, pos, after, none⟩ ⟨lk' fl, S'⟩ K := zn11 (m := m) (n := (@OfNat.ofNat Nat n (instOfNatNat n))) hT kk hx rfl h
theorem zc11 {t0 t1 : TypeId} {x : Operand} {m n : Nat} (hT : TOk P T) (kk : K ⟨lk' ((d, ivl .i64 ((m / (@OfNat.ofNat Nat n (instOfNatNat n)) : Nat) : Int)) :: fl), S'⟩) (hx : opO fl x = some (ivl .i64 (m : Int)) := by exact rfl) (h : m < 9223372036854775808 ∧ (@OfNat.ofNat Nat n (instOfNatNat n)) ≠ 0 := by first | exact True.intro | omega | (simp only [and_true, List.length_map, List.length_replicate, List.length_set, List.length_append, List.length_cons, List.length_nil, List.length_take, List.length_drop] at *; omega)) :
    Stp P mu ops ⟨some d, .binOp .quo t0 x (.const (.int .i64 (@OfNat.ofNat Int n instOfNat))) t1, ty, pos, after, none⟩ ⟨lk' fl, S'⟩ K := zn10 (m := m) (n := (@OfNat.ofNat Nat n (instOfNatNat n))) hT kk hx rfl h
theorem zc12 {t0 t1 : TypeId} {y : Operand} {m n : Nat} (hT : TOk P T) (kk : K ⟨lk' ((d, ivl .u64 (((@OfNat.ofNat Nat m (instOfNatNat m)) / n : Nat) : Int)) :: fl), S'⟩) (hy : opO fl y = some (ivl .u64 (n : Int)) := by exact rfl) (h : (@OfNat.ofNat Nat m (instOfNatNat m)) < 18446744073709551616 ∧ n ≠ 0 := by first | exact True.intro | omega | (simp only [and_true, List.length_map, List.length_replicate, List.length_set, List.length_append, List.length_cons, List.length_nil, List.length_take, List.length_drop] at *; omega)) :
    Stp P mu ops ⟨some d, .binOp .quo t0 (.const (.int .u64 (@OfNat.ofNat Int m instOfNat))) y t1, ty, pos, after, none⟩ ⟨lk' fl, S'⟩ K := zg5 (m := (@OfNat.ofNat Nat m (instOfNatNat m))) (n := n) hT kk rfl hy h
end
end Go.Abs

/-
  A load ahead of a store into another block, in a region that draws its order; results that are read where they stand; lists with spare room that is known.
-/
namespace Go.Abs
open Go

section
variable {P : Program} {mu : FuncId → Bool} {ops : Array Oper}

def Sep (fr : Fram) (x y : Nat) : Prop := (∃ cs, fr x = .c (.pim cs)) ∨ ∃ n off p off', fr x = .c (.ptr n off) ∧ fr y = .c (.ptr p off') ∧ n ≠ p

def LS (ops : Array Oper) (fr : Fram) (oi oj : Oper) : Prop :=
  oi.apart ops oj = true ∧ (∀ o ∈ ops.toList, ∀ ti x tj y z, oi.op = .load ti (.tmp x) → oj.op = .store tj (.tmp y) z → o.dst ≠ some y) ∧
    ∃ ti x tj y z, oi.op = .load ti (.tmp x) ∧ oj.op = .store tj (.tmp y) z ∧ oi.guard = none ∧ oj.guard = none ∧ Sep fr x y

theorem LS.put {fr : Fram} {oi oj ok : Oper} {d : Option Nat} {v : AVal} (h : LS ops fr oi oj) (h1 : ∀ t, d = some t → t ∉ oi.looksAt ops) (h2 : ok ∈ ops.toList) (hd : ok.dst = d) : LS ops (putF fr d v) oi oj := by
  obtain ⟨a, b, ti, x, tj, y, z, e1, e2, g1, g2, hs⟩ := h
  refine ⟨a, b, ti, x, tj, y, z, e1, e2, g1, g2, ?_⟩
  have hx : putF fr d v x = fr x := by
    have := look_put (fr := fr) (d := d) (v := v) (x := .tmp x) (fun t ht e => h1 t ht (by
      injection e with e; subst e
      exact List.mem_append_left _ (List.mem_filterMap.2 ⟨.tmp x, by rw [e1]; simp [Op.operands], rfl⟩)))
    exact this
  have hy : putF fr d v y = fr y := by
    have := look_put (fr := fr) (d := d) (v := v) (x := .tmp y) (fun t ht e => by
      injection e with e; subst e
      exact b ok h2 ti x tj y z e1 e2 (by rw [hd, ht]))
    exact this
  unfold Sep
  rw [hx, hy]
  exact hs

variable {N : Nat} {Q : Exit → St → Prop} {st : St}

/-! ### Results that are read where they stand -/
def resLS (T : TT) (sl : SL) (fl : FL) : List ResultVar → Option (List AVal)
  | [] => some []
  | .tmp t :: r => match lkO fl t, resLS T sl fl r with
    | some v, some vs => some (v :: vs)
    | _, _ => none
  | .cell a t :: r => match lkO fl a, agT T t, celT T t, resLS T sl fl r with
    | some (.c (.ptr m off)), some true, n + 1, some vs => match lkS sl m with
      | some (.cells _ cs) => match Nat.ble (off + (n + 1)) cs.length with
        | true => some (.agg ((cs.drop off).take (n + 1)) :: vs)
        | false => none
      | _ => none
    | some (.c (.pim cs)), some true, n + 1, some vs => match Nat.ble (n + 1) cs.length with
      | true => some (.agg ((cs.take (n + 1)).map Leaf.cell) :: vs)
      | false => none
    | _, _, _, _ => none

def EndT (P : Program) (fn : Func) (S : Store) (res : AVal) (e : Exit) (st : St) : Prop :=
  (e = .normal ∨ e = .ret) ∧ ∃ T fl sl vs, TOk P T ∧ outsL sl = [] ∧ Weak st ⟨lk' fl, ov sl (pushS S)⟩ ∧ resLS T sl fl fn.results.toList = some vs ∧ flatL vs = true ∧ oneR vs = res

end
end Go.Abs
