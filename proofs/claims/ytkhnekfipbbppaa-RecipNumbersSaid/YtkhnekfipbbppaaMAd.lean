/-
  An abstract machine for this program, contracts of its functions: part MAd (no statement by itself).
-/
import Derived.Test.YtkhnekfipbbppaaMAc
set_option linter.unusedVariables false
set_option linter.unusedSimpArgs false

/-
  Functions that write what they are handed; functions that hand out new blocks.
-/
namespace Go.Abs
open Go

theorem Cell.map_congr {φ ψ : Nm → Nm} {x : Cell} (h : ∀ q, x.at q → φ q = ψ q) : x.map φ = x.map ψ := by
  cases x <;> simp only [Cell.map] <;> rw [h _ rfl]
theorem Cell.maps_congr {φ ψ : Nm → Nm} {cs : List Cell} (h : ∀ x ∈ cs, ∀ q, x.at q → φ q = ψ q) : cs.map (·.map φ) = cs.map (·.map ψ) :=
  List.map_congr_left fun x hx => Cell.map_congr (h x hx)
theorem AVal.map1_congr {φ ψ : Nm → Nm} {x : AVal} (h : ∀ q, x.at1 q → φ q = ψ q) : x.map1 φ = x.map1 ψ := by
  cases x with
  | c x => simp only [AVal.map1, Cell.map_congr (x := x) h]
  | agg cs => simp only [AVal.map1, Cell.maps_congr (cs := cs) fun x hx q hq => h q ⟨x, hx, hq⟩]
  | fn f cs => simp only [AVal.map1, Cell.maps_congr (cs := cs) fun x hx q hq => h q ⟨x, hx, hq⟩]
  | accv m => simp only [AVal.map1, h m rfl]
  | tup xs => rfl
theorem AVal.map_congr {φ ψ : Nm → Nm} {x : AVal} (h : ∀ q, x.at q → φ q = ψ q) : x.map φ = x.map ψ := by
  cases x with
  | tup xs =>
    simp only [AVal.map]
    congr 1
    exact List.map_congr_left fun x hx => AVal.map1_congr fun q hq => h q ⟨x, hx, hq⟩
  | c x => exact AVal.map1_congr (x := .c x) h
  | agg x => exact AVal.map1_congr (x := .agg x) h
  | fn f x => exact AVal.map1_congr (x := .fn f x) h
  | accv m => exact AVal.map1_congr (x := .accv m) h

def AObj.nm0 : AObj → Prop
  | .cells _ cs => ∀ x ∈ cs, ∀ m, ¬ x.at m
  | _ => True
theorem AObj.map_nm0 {φ : Nm → Nm} {o : AObj} (h : o.nm0) : o.map φ = o := by
  cases o with
  | cells ty cs => simp only [AObj.map, Cell.maps_nm0 h]
  | ints ty k L => rfl
  | acc ty k L => rfl
theorem AObj.cl_nm0 {S : Store} {o : AObj} (h : o.nm0) : o.cl S := by
  cases o with
  | cells ty cs => exact fun x hx m hm => absurd hm (h x hx m)
  | ints ty k L => trivial
  | acc ty k L => trivial

/-- f writes the blocks of its arguments (pre), as post says. -/
structure AProc (P : Program) (f : FuncId) (args : List AVal) (pre post : SL) (res : AVal) : Prop where
  calls : ∀ Φ, (∀ p ∈ pre, Φ p.1 = some p.2) → ACalls P f args Φ (fun _ => res) (fun _ => post)
  nmA : ∀ q x, x ∈ args → x.at q → ∃ o, (q, o) ∈ pre
  nmR : ∀ q, res.at q → ∃ x ∈ args, x.at q
  nmP : ∀ p ∈ post, ∃ x ∈ args, x.at p.1
  post0 : ∀ p ∈ post, p.2.nm0

def outO (U : SL) : SL := U.map fun p => (.out p.1, p.2)
theorem lkS_outO : ∀ (U : SL) (q : Nm), lkS (outO U) (.out q) = lkS U q
  | [], q => rfl
  | (m, o) :: U, q => by
    have ih := lkS_outO U q
    simp only [outO, List.map_cons, lkS, Nm.out.injEq] at ih ⊢
    rw [ih]
theorem lkS_outO_ne : ∀ (U : SL) (q : Nm), (∀ m, q ≠ .out m) → lkS (outO U) q = none
  | [], q, _ => rfl
  | (m, o) :: U, q, h => by
    have ih := lkS_outO_ne U q h
    simp only [outO, List.map_cons, lkS] at ih ⊢
    rw [if_neg (h m), ih]
theorem lkS_none : ∀ {U : SL} {q : Nm}, (∀ p ∈ U, p.1 ≠ q) → lkS U q = none
  | [], q, _ => rfl
  | (m, o) :: U, q, h => by
    simp only [lkS]
    rw [if_neg (fun e => h (m, o) (by simp) e.symm)]
    exact lkS_none fun p hp => h p (by simp [hp])
theorem updL_lk : ∀ (U : SL) (S : Store) (q : Nm), (U.map Prod.fst).Nodup → updL S U q = match lkS U q with | some o => some o | none => S q
  | [], S, q, _ => rfl
  | (m, o) :: U, S, q, h => by
    simp only [List.map_cons, List.nodup_cons] at h
    simp only [updL]
    rw [updL_lk U _ q h.2]
    simp only [lkS]
    by_cases e : q = m
    · subst e
      rw [if_pos rfl]
      have : lkS U q = none := lkS_none fun p hp e => h.1 (by rw [← e]; exact List.mem_map.2 ⟨p, hp, rfl⟩)
      rw [this]; simp [upd]
    · rw [if_neg e]
      cases lkS U q <;> simp [upd, e]
theorem lkS_mem : ∀ {U : SL} {q : Nm} {o : AObj}, lkS U q = some o → (q, o) ∈ U
  | (m, o') :: U, q, o, h => by
    simp only [lkS] at h
    split at h
    · rename_i e; subst e; obtain rfl := Option.some.inj h; simp
    · exact List.mem_cons_of_mem _ (lkS_mem h)

section
variable {P : Program} {mu : FuncId → Bool}

/-- The end of a function that leaves 'post'. -/
def EndP (P : Program) (fn : Func) (S : Store) (post : SL) (res : AVal) (e : Exit) (st : St) : Prop :=
  (e = .normal ∨ e = .ret) ∧ ∃ T fl vs, TOk P T ∧ Weak st ⟨lk' fl, ov (outO post) (pushS S)⟩ ∧ resL T fl fn.results.toList = some vs ∧ flatL vs = true ∧ oneR vs = res.map .out

theorem aproc {f : FuncId} {fn : Func} {c : Code} {args : List AVal} {pre post : SL} {res : AVal} (hf : P.funcs[f]? = some fn) (hb : fn.body = some c) (hname : (fn.name == "runtime.NumGoroutine") = false)
    (hm : P.follows .mixedOrders = true) (hok : okC fn.ntmps mu c = true) (hl : args.length ≤ fn.ntmps) (hA : ∀ q x, x ∈ args → x.at q → ∃ o, (q, o) ∈ pre) (hR : ∀ q, res.at q → ∃ x ∈ args, x.at q)
    (hP : ∀ p ∈ post, ∃ x ∈ args, x.at p.1) (hpre0 : ∀ p ∈ pre, p.2.nm0 ∧ ∃ x ∈ args, x.at p.1) (hpost0 : ∀ p ∈ post, p.2.nm0) (hnd : (post.map Prod.fst).Nodup)
    (h : ∀ S, (∀ n b, S n = some b → b.cl S) → awp P mu fn.ntmps c (EndP P fn S post res) ⟨lk' (entryL 0 (args.map (·.map .out))), ov (outO pre) (pushS S)⟩) : AProc P f args pre post res := by
  refine ⟨fun Φ hΦ => acalls hf hb hname hm hok hl fun n S hag hn hcl => ?_, hA, hR, hP, hpost0⟩
  have hS : ∀ p ∈ pre, S p.1 = some p.2 := fun p hp => by
    obtain ⟨x, hx, hq⟩ := (hpre0 p hp).2
    rw [hag p.1 ⟨x, hx, hq⟩]; exact hΦ p hp
  have e0 : ov (outO pre) (pushS S) = ov [] (pushS S) := by
    rw [show ov [] (pushS S) = pushS S from rfl]
    refine ov_self fun m o hm => ?_
    have : ∃ q, m = .out q := by
      cases m with
      | out q => exact ⟨q, rfl⟩
      | _ => rw [lkS_outO_ne _ _ (fun m e => by cases e)] at hm; cases hm
    obtain ⟨q, rfl⟩ := this
    rw [lkS_outO] at hm
    have := hS _ (lkS_mem hm)
    simp only at this
    simp only [pushS, this, Option.map_some, AObj.map_nm0 (hpre0 _ (lkS_mem hm)).1]
  refine awp_weak _ (entry_weak args S) ?_
  have hh := h S hcl
  rw [e0] at hh
  refine awp_post (awp_mono hh ?_)
  have hne : ∀ m, S m ≠ none → m ≠ n := fun m hm e => hm (by rw [e]; exact hn)
  have hnames : ∀ q, (∃ x ∈ args, x.at q) → S q ≠ none := fun q ⟨x, hx, hq⟩ => by
    obtain ⟨o, ho⟩ := hA q x hx hq
    rw [hS _ ho]; simp
  have hpostS : ∀ q o, lkS post q = some o → S q ≠ none := fun q o ho => hnames q (hP _ (lkS_mem ho))
  rintro e st ⟨he, T, fl, vs, hT, h1, h2, h3, h4⟩
  refine ⟨_, h1, he, vs, .new, resL_spec hT h2, flatL_spec h3, rfl, ?_, ?_, ?_⟩
  · have e1 : ∀ (o : AObj), o.cl S → (o.map fun m => if m = n then .new else .out m) = o.map .out := by
      intro o hc
      cases o with
      | ints ty k L => rfl
      | acc ty k L => rfl
      | cells ty cs =>
        simp only [AObj.map]
        congr 1
        refine List.map_congr_left fun x hx => ?_
        cases x <;> simp only [Cell.map]
        · rename_i q _ _ _; rw [if_neg (hne q (hc _ hx q rfl))]
        · rename_i q _; rw [if_neg (hne q (hc _ hx q rfl))]
    have hdom : ∀ m, updL S post m ≠ none → S m ≠ none := fun m hm => by
      rw [updL_lk _ _ _ hnd] at hm
      cases e : lkS post m with
      | none => rw [e] at hm; exact hm
      | some o => exact hpostS m o e
    refine ⟨fun m m' q1 q2 e => ?_, fun m o hm => ?_, fun m o hm => ?_⟩
    · rw [if_neg (hne m (hdom m q1)), if_neg (hne m' (hdom m' q2))] at e; injection e
    · have hm0 := hdom m (by rw [hm]; simp)
      rw [if_neg (hne m hm0)]
      rw [updL_lk _ _ _ hnd] at hm
      simp only [ov, lkS_outO]
      cases e : lkS post m with
      | none =>
        rw [e] at hm
        simp only at hm ⊢
        rw [e1 o (hcl m o hm)]
        simp [pushS, hm]
      | some o' =>
        rw [e] at hm
        obtain rfl := Option.some.inj hm
        rw [AObj.map_nm0 (hpost0 _ (lkS_mem e))]
    · rw [updL_lk _ _ _ hnd] at hm
      have mono : ∀ q, S q ≠ none → updL S post q ≠ none := fun q hq => updL_dom _ _ _ hq
      cases e : lkS post m with
      | none =>
        rw [e] at hm
        have := hcl m o hm
        cases o with
        | cells ty cs => exact fun x hx q hq => mono q (this x hx q hq)
        | ints ty k L => trivial
        | acc ty k L => trivial
      | some o' =>
        rw [e] at hm
        obtain rfl := Option.some.inj hm
        exact AObj.cl_nm0 (hpost0 _ (lkS_mem e))
  · exact fun q hq => updL_dom _ _ _ (hnames q (hR q hq))
  · rw [h4]
    exact AVal.map_congr fun q hq => by rw [if_neg (hne q (hnames q (hR q hq)))]

variable {T : TT} {ops : Array Oper} {fl : FL} {sl : SL} {S : Store} {K : St → Prop} {d : Nat} {ty : TypeId} {pos : String} {after : Array Edge}

theorem endP (hT : TOk P T) {fn : Func} {post : SL} {res : AVal} {e : Exit} {fl' : FL} {vs : List AVal} (he : e = .normal ∨ e = .ret) (hS : ∀ n b, S n = some b → b.cl S) (ho : outsL (outO post) = outsL sl)
    (hs : FrzS (ov sl (pushS S)) (ov (outO post) (pushS S)) (outO post)) (hf : FrzF (ov sl (pushS S)) (ov (outO post) (pushS S)) fl fl')
    (hr : resL T fl' fn.results.toList = some vs) (hfl : flatL vs = true) (h1 : oneR vs = res.map .out) : EndP P fn S post res e ⟨lk' fl, ov sl (pushS S)⟩ :=
  ⟨he, T, fl', vs, hT, frz hS ho hs hf, hr, hfl, h1⟩

theorem AProc.side {f : FuncId} {args : List AVal} {pre post : SL} {res : AVal} {dd : Option Nat} (hc : AProc P f args pre post res) (hmu : mu f = true) : ASide mu f dd args res post :=
  ⟨fun p hp => .inr ⟨hmu, hc.nmP p hp⟩, .inr (.inl hmu), fun m hm => .inr (hc.nmR m hm), fun p hp ty cs e x hx m hm => by
    have := hc.post0 p hp
    rw [e] at this
    exact absurd hm (this x hx m)⟩

theorem s_proc {g : Operand} {f : FuncId} {caps : List Cell} {as : Array Operand} {tys : Array TypeId} {xs args : List AVal} {pre post : SL} {res : AVal} (hc : AProc P f args pre post res) (k : K ⟨lk' ((d, res) :: fl), ov (addL sl post) (pushS S)⟩)
    (hpre : ∀ p ∈ pre, lkS sl p.1 = some p.2) (hmu : mu f = true := by exact rfl) (hg : opO fl g = some (.fn f caps) := by exact rfl) (hx : opsO fl as.toList = some xs := by exact rfl)
    (hle : ALes (xs ++ caps.map .c) args := by repeat (first | exact trivial | refine ⟨ALe.refl _, ?_⟩ | refine ⟨.inr (.inl ⟨_, rfl, rfl⟩), ?_⟩)) (hf : freeO sl d = true := by exact rfl) :
    Stp P mu ops ⟨some d, .call ⟨.value g, as, tys⟩, ty, pos, after, none⟩ ⟨lk' fl, ov sl (pushS S)⟩ K :=
  stp_call (hc.calls (ov sl (pushS S)) fun p hp => ov_of (hpre p hp)) hg hx hle hf (fun _ _ => rfl) (hc.side hmu) k
theorem s_procN {g : Operand} {f : FuncId} {caps : List Cell} {as : Array Operand} {tys : Array TypeId} {xs args : List AVal} {pre post : SL} {res : AVal} (hc : AProc P f args pre post res) (k : K ⟨lk' fl, ov (addL sl post) (pushS S)⟩)
    (hpre : ∀ p ∈ pre, lkS sl p.1 = some p.2) (hmu : mu f = true := by exact rfl) (hg : opO fl g = some (.fn f caps) := by exact rfl) (hx : opsO fl as.toList = some xs := by exact rfl)
    (hle : ALes (xs ++ caps.map .c) args := by repeat (first | exact trivial | refine ⟨ALe.refl _, ?_⟩ | refine ⟨.inr (.inl ⟨_, rfl, rfl⟩), ?_⟩)) (hf : lkS sl .new = none := by exact rfl) :
    Stp P mu ops ⟨none, .call ⟨.value g, as, tys⟩, ty, pos, after, none⟩ ⟨lk' fl, ov sl (pushS S)⟩ K :=
  stp_callN (hc.calls (ov sl (pushS S)) fun p hp => ov_of (hpre p hp)) hg hx hle hf (fun _ _ => rfl) (hc.side hmu) k
end
end Go.Abs

/-
  Functions that hand out a new block; rows of cells that are told as they stand.
-/
namespace Go.Abs
open Go

/-- f hands out a new block of these cells. -/
structure ANew (P : Program) (f : FuncId) (args : List AVal) (ty : TypeId) (ls : List Leaf) : Prop where
  calls : ∀ Φ, ACalls P f args Φ (fun n => .c (.ptr n 0)) (fun n => [(n, .cells ty (ls.map Leaf.cell))])
  args0 : ∀ x ∈ args, nm0 x

theorem Leaf.cell_nm (l : Leaf) (m : Nm) : ¬ l.cell.at m := by cases l <;> exact fun h => h
theorem leaves_nm0 {ls : List Leaf} {x : Cell} (h : x ∈ ls.map Leaf.cell) (m : Nm) : ¬ x.at m := by
  obtain ⟨l, -, rfl⟩ := List.mem_map.1 h
  exact l.cell_nm m

section
variable {P : Program} {mu : FuncId → Bool}

theorem ANew.pim {f : FuncId} {args : List AVal} {ty : TypeId} {ls : List Leaf} (h : ANew P f args ty ls) : AFun P f args (.c (.pim ls)) where
  res0 := fun m hm => hm.elim
  args0 := h.args0
  calls Φ n S hag hn w ρ vs he hvs := by
    rcases h.calls Φ n S hag hn w ρ vs he hvs with ⟨hrun, hc⟩ | ⟨v, -, -, hu⟩
    · refine .inl ⟨hrun, hc.mono ?_⟩
      rintro e w' ⟨ρ', v, e1, e2, e3, e4⟩
      have hS' : ∀ m o, S m = some o → updL S [(n, .cells ty (ls.map Leaf.cell))] m = some o := fun m o hm => by
        have : m ≠ n := fun q => by rw [q, hn] at hm; cases hm
        simp only [updL, upd_ne _ _ this, hm]
      have hS2 : ∀ m o, m ≠ n → updL S [(n, .cells ty (ls.map Leaf.cell))] m = some o → S m = some o := fun m o q hm => by
        simp only [updL, upd_ne _ _ q] at hm; exact hm
      have hne : ∀ {m o}, S m = some o → m ≠ n := fun hm q => by rw [q, hn] at hm; cases hm
      have hO : Sub (updL S [(n, .cells ty (ls.map Leaf.cell))]) S := fun m o hm => .inl ⟨o, hS' m o hm, by
        cases o with
        | ints ty k L => exact .ints
        | acc ty k L => exact .acc
        | cells ty cs => exact .cells fun i y hy => ⟨y, hy, .base (.keep fun q hq => he.cl m _ hm y (List.mem_of_getElem? hy) q hq)⟩⟩
      refine ⟨ρ', v, e1, ⟨fun m m' o o' h1 h2 r1 r2 e => e2.inj m m' o o' (hS' _ _ h1) (hS' _ _ h2) r1 r2 e, fun m o hm => ?_⟩, ⟨e3.os, e3.tape, e3.output, e3.size, e3.old, fun m o hm hr => e3.nms m o (hS' _ _ hm) hr, fun m o hm ha => ?_, e3.szs, fun m ty' k L hX hm => ?_, fun _ h => h.elim⟩, ?_⟩
      · have ho := e2.obj m o (hS' m o hm)
        cases o with
        | ints ty k L => exact ho
        | acc ty k L => exact ho
        | cells ty cs =>
          obtain ⟨vs, q1, q2⟩ := ho
          refine ⟨vs, q1, fun i y hy => ?_⟩
          obtain ⟨u, p1, p2, p3⟩ := q2 i y hy
          exact ⟨u, p1, p2, FrzC0.held hO e2 (.keep fun q hq => he.cl m _ hm y (List.mem_of_getElem? hy) q hq) p3⟩
      · obtain ⟨o', a1, a2, a3⟩ := e3.kp m o hm ha
        exact ⟨o', hS2 m o' (hne hm) a1, a2, a3⟩
      · obtain ⟨a1, a2⟩ := e3.acc m ty' k L hX hm
        exact ⟨hS2 m _ (hne hm) a1, a2⟩
      · refine FrzV.held hO e2 (.c (.ptr (ty := ty) (cs := ls.map Leaf.cell) (by simp [updL, upd]) hn fun j l hj => ⟨l.cell, by simp [hj], .keep fun q hq => absurd hq (l.cell_nm q)⟩)) e4
    · cases hu

/-- The end of a function that hands out a new block. -/
def EndN (P : Program) (fn : Func) (S : Store) (ty : TypeId) (ls : List Leaf) (e : Exit) (st : St) : Prop :=
  (e = .normal ∨ e = .ret) ∧ ∃ T fl l, TOk P T ∧ l.isOut = false ∧ Weak st ⟨lk' fl, ov [(l, .cells ty (ls.map Leaf.cell))] (pushS S)⟩ ∧ resL T fl fn.results.toList = some [.c (.ptr l 0)]

theorem anew {f : FuncId} {fn : Func} {c : Code} {args : List AVal} {ty : TypeId} {ls : List Leaf} (hf : P.funcs[f]? = some fn) (hb : fn.body = some c) (hname : (fn.name == "runtime.NumGoroutine") = false)
    (hm : P.follows .mixedOrders = true) (hok : okC fn.ntmps mu c = true) (hl : args.length ≤ fn.ntmps) (ha : ∀ x ∈ args, nm0 x)
    (h : ∀ S, (∀ n b, S n = some b → b.cl S) → awp P mu fn.ntmps c (EndN P fn S ty ls) ⟨lk' (entryL 0 args), ov [] (pushS S)⟩) : ANew P f args ty ls := by
  refine ⟨fun Φ => acalls hf hb hname hm hok hl fun n S _ hn hcl => ?_, ha⟩
  refine awp_weak _ (entry_weak args S) ?_
  have e1 : args.map (·.map .out) = args := by
    conv => rhs; rw [← List.map_id args]
    exact List.map_congr_left fun x hx => AVal.map_nm0 (ha x hx)
  rw [e1]
  refine awp_post (awp_mono (h S hcl) ?_)
  rintro e st ⟨he, T, fl, l, hT, hlo, h1, h2⟩
  have hne : ∀ m, S m ≠ none → m ≠ n := fun m hm e => hm (by rw [e]; exact hn)
  refine ⟨_, h1, he, _, l, resL_spec hT h2, fun x hx => .inl (by simp), hlo, ⟨fun m m' q1 q2 e => ?_, fun m o hm => ?_, fun m o hm => ?_⟩, fun m hm => ?_, ?_⟩
  · simp only [updL, upd] at q1 q2
    by_cases a : m = n
    · subst a
      rw [if_pos rfl] at e
      by_cases b : m' = m
      · exact b.symm
      · rw [if_neg b] at e
        subst e; cases hlo
    · by_cases b : m' = n
      · subst b
        rw [if_pos rfl, if_neg a] at e
        subst e; cases hlo
      · rw [if_neg a, if_neg b] at e; injection e
  · simp only [updL, upd] at hm
    by_cases a : m = n
    · subst a
      rw [if_pos rfl] at hm
      obtain rfl := Option.some.inj hm
      rw [if_pos rfl, AObj.map_nm0 (o := .cells ty (ls.map Leaf.cell)) fun x hx q => leaves_nm0 hx q]
      simp [ov, lkS]
    · rw [if_neg a] at hm
      rw [if_neg a]
      have e0 : (o.map fun m => if m = n then l else .out m) = o.map .out := by
        have hc := hcl m o hm
        cases o with
        | ints ty k L => rfl
        | acc ty k L => rfl
        | cells ty cs =>
          simp only [AObj.map]
          congr 1
          exact Cell.maps_congr fun x hx q hq => by rw [if_neg (hne q (hc x hx q hq))]
      rw [e0]
      have : ¬ Nm.out m = l := fun q => by subst q; cases hlo
      show ov _ (pushS S) _ = _
      simp only [ov, lkS, if_neg this, pushS, hm]
      rfl
  · simp only [updL, upd] at hm
    by_cases a : m = n
    · subst a
      rw [if_pos rfl] at hm
      obtain rfl := Option.some.inj hm
      exact AObj.cl_nm0 (o := .cells ty (ls.map Leaf.cell)) fun x hx q => leaves_nm0 hx q
    · rw [if_neg a] at hm
      exact cl_mono (fun q hq => upd_dom hq) (hcl m o hm)
  · have : n = m := hm
    subst this
    simp [updL, upd]
  · simp [oneR, AVal.map, AVal.map1, Cell.map]

theorem endN {T : TT} (hT : TOk P T) {fn : Func} {S : Store} {ty : TypeId} {ls : List Leaf} {e : Exit} {fl fl' : FL} {sl : SL} {l : Nm} (he : e = .normal ∨ e = .ret) (hS : ∀ n b, S n = some b → b.cl S) (hl : l.isOut = false) (ho : outsL sl = [])
    (hs : FrzS (ov sl (pushS S)) (ov [(l, .cells ty (ls.map Leaf.cell))] (pushS S)) [(l, .cells ty (ls.map Leaf.cell))]) (hf : FrzF (ov sl (pushS S)) (ov [(l, .cells ty (ls.map Leaf.cell))] (pushS S)) fl fl')
    (hr : resL T fl' fn.results.toList = some [.c (.ptr l 0)]) : EndN P fn S ty ls e ⟨lk' fl, ov sl (pushS S)⟩ :=
  ⟨he, T, fl', l, hT, hl, frz hS (by rw [ho]; cases l <;> first | rfl | cases hl) hs hf, hr⟩

variable {T : TT} {ops : Array Oper} {fl : FL} {sl : SL} {S : Store} {K : St → Prop} {d : Nat} {ty : TypeId} {pos : String} {after : Array Edge}

theorem s_new {f : FuncId} {as : Array Operand} {tys : Array TypeId} {xs args : List AVal} {tb : TypeId} {ls : List Leaf} (hc : ANew P f args tb ls) (k : K ⟨lk' ((d, .c (.ptr (.loc d) 0)) :: fl), ov ((.loc d, .cells tb (ls.map Leaf.cell)) :: sl) (pushS S)⟩) (hx : opsO fl as.toList = some xs := by exact rfl)
    (hle : ALes xs args := by repeat (first | exact trivial | refine ⟨ALe.refl _, ?_⟩ | refine ⟨.inr (.inl ⟨_, rfl, rfl⟩), ?_⟩)) (hf : freeO sl d = true := by exact rfl) :
    Stp P mu ops ⟨some d, .call ⟨.value (.func f), as, tys⟩, ty, pos, after, none⟩ ⟨lk' fl, ov sl (pushS S)⟩ K :=
  stp_call (hc.calls (ov sl (pushS S))) rfl hx (by simpa using hle) hf (fun _ _ => rfl)
    ⟨fun p hp => .inl (by simp at hp; rw [hp]; rfl), .inr (.inr ⟨d, _, rfl, rfl⟩), fun m hm => .inl ⟨(show Nm.loc d = m from hm).symm, .cells tb (ls.map Leaf.cell), by rw [← show Nm.loc d = m from hm]; simp [nmOf]⟩,
      fun p hp ty cs e x hx m hm => by
        simp at hp; subst hp
        simp only [AObj.cells.injEq] at e
        obtain ⟨-, rfl⟩ := e
        exact absurd hm (leaves_nm0 hx m)⟩ k
end

/-! ### Rows of cells -/
def FrzCs (A B : Store) : List Cell → List Cell → Prop
  | _, [] => True
  | x :: xs, y :: ys => FrzC A B x y ∧ FrzCs A B xs ys
  | [], _ :: _ => False
theorem FrzCs.at {A B : Store} : ∀ {xs ys : List Cell}, FrzCs A B xs ys → ∀ (i : Nat) (y : Cell), ys[i]? = some y → ∃ x, xs[i]? = some x ∧ FrzC A B x y
  | x :: xs, y :: ys, ⟨h1, h2⟩, i, z, hi => by
    match i with
    | 0 => simp only [List.getElem?_cons_zero, Option.some.injEq] at hi; subst hi; exact ⟨x, rfl, h1⟩
    | i + 1 => exact FrzCs.at h2 i z (by simpa using hi)
  | _, [], _, i, z, hi => by simp at hi
def FrzLs (A B : Store) : List Cell → List Leaf → Prop
  | _, [] => True
  | x :: xs, y :: ys => FrzC0 A B x y.cell ∧ FrzLs A B xs ys
  | [], _ :: _ => False
theorem FrzLs.at {A B : Store} : ∀ {xs : List Cell} {ys : List Leaf}, FrzLs A B xs ys → ∀ (i : Nat) (y : Leaf), ys[i]? = some y → ∃ x, xs[i]? = some x ∧ FrzC0 A B x y.cell
  | x :: xs, y :: ys, ⟨h1, h2⟩, i, z, hi => by
    match i with
    | 0 => simp only [List.getElem?_cons_zero, Option.some.injEq] at hi; subst hi; exact ⟨x, rfl, h1⟩
    | i + 1 => exact FrzLs.at h2 i z (by simpa using hi)
  | _, [], _, i, z, hi => by simp at hi

section
variable {A B : Store}
theorem kC {ty : TypeId} {xs ys : List Cell} (h : FrzCs A B xs ys) : FrzO A B (.cells ty xs) (.cells ty ys) := .cells h.at
theorem kP {m : Nm} {off : Nat} {ty : TypeId} {cs : List Cell} {ls : List Leaf} (hm : A m = some (.cells ty cs)) (hb : B m = none) (h : FrzLs A B (cs.drop off) ls) : FrzV A B (.c (.ptr m off)) (.c (.pim ls)) :=
  .c (.ptr hm hb fun j l hj => by
    obtain ⟨x, h1, h2⟩ := h.at j l hj
    exact ⟨x, by rw [List.getElem?_drop] at h1; exact h1, h2⟩)
theorem kPtr {m : Nm} {off : Nat} (hb : B m ≠ none) : FrzV A B (.c (.ptr m off)) (.c (.ptr m off)) := .c (.base (.keep fun q h => by rw [← show m = q from h]; exact hb))
theorem kPim {cs cs' : List Leaf} (h : cs = cs') : FrzV A B (.c (.pim cs)) (.c (.pim cs')) := by subst h; exact .c (.base (.keep fun q h => h.elim))
theorem kAgg {xs ys : List Cell} (hl : xs.length = ys.length) (h : FrzCs A B xs ys) : FrzV A B (.agg xs) (.agg ys) := .agg hl fun i x y h1 h2 => by
  obtain ⟨x', h3, h4⟩ := h.at i y h2
  rw [h1] at h3; obtain rfl := Option.some.inj h3; exact h4
theorem cS {v v' : Value} (h : v = v') : FrzC A B (.sc v) (.sc v') := by subst h; exact .base (.keep fun q h => h.elim)
theorem cI {k : IntKind} {L L' : List Int} (h : L = L') : FrzC A B (.ints k L) (.ints k L') := by subst h; exact .base (.keep fun q h => h.elim)
theorem cJ {k : IntKind} : FrzC A B (.sc (.slice none 0 0)) (.ints k []) := .base .nilI
theorem cW {m : Nm} {off len cm : Nat} {ty : TypeId} {k : IntKind} {L L' : List Int} (hm : A m = some (.ints ty k L)) (hb : B m = none) (hl : off + len ≤ L.length) (e : (L.drop off).take len = L') :
    FrzC A B (.win m off len cm) (.ints k L') := .base (.win hm hb hl e.symm)
theorem lS {v v' : Value} (h : v = v') : FrzC0 A B (.sc v) (.sc v') := by subst h; exact .keep fun q h => h.elim
theorem lI {k : IntKind} {L L' : List Int} (h : L = L') : FrzC0 A B (.ints k L) (.ints k L') := by subst h; exact .keep fun q h => h.elim
theorem lJ {k : IntKind} : FrzC0 A B (.sc (.slice none 0 0)) (.ints k []) := .nilI
theorem kB {b b' : Bool} (h : b = b') : FrzV A B (bvl b) (bvl b') := by subst h; exact kS
theorem kFn {f : FuncId} {xs : List Cell} (h : ∀ x ∈ xs, ∀ m, x.at m → B m ≠ none) : FrzV A B (.fn f xs) (.fn f xs) := .fn h
theorem kAcc {m : Nm} {ty : TypeId} {k : IntKind} {L L' : List Int} (hm : A m = some (.acc ty k L)) (hb : B m = none) (e : L = L') : FrzV A B (.accv m) (.c (.ints k L')) := by subst e; exact .acc hm hb
theorem kAccK {m : Nm} {o o' : AObj} (h1 : A m = some o) (h2 : B m = some o') (e : o = o') : FrzV A B (.accv m) (.accv m) := by subst e; exact .accK h1 h2
end
end Go.Abs

/-
  Structs put together, closures made, slices held against nil.
-/
namespace Go.Abs
open Go

def placesT (T : TT) : List Field → Option (List (Nat × Nat))
  | [] => some []
  | f :: fs => match celT T f.type, placesT T fs with
    | n + 1, some r => some ((f.offset, n + 1) :: r)
    | _, _ => none

theorem under_info {P : Program} {t : TypeId} {d : TypeDesc} (h : P.underlying t = some d) : P.info? t ≠ none := by
  intro e; simp [Program.underlying, e] at h

theorem celT_info {P : Program} {T : TT} (hT : TOk P T) {t n : Nat} (h : celT T t = n + 1) : P.info? t ≠ none := by
  unfold celT at h
  split at h
  · rename_i i hi; exact under_info (hT.at hi).1
  · cases h

theorem placesT_spec {P : Program} {T : TT} (hT : TOk P T) : ∀ {fs : List Field} {pl : List (Nat × Nat)}, placesT T fs = some pl → fs.map (fun f => (f.offset, P.cellsOf f.type)) = pl ∧ ∀ f ∈ fs, P.info? f.type ≠ none
  | [], pl, h => by simp only [placesT, Option.some.injEq] at h; subst h; simp
  | f :: fs, pl, h => by
    simp only [placesT] at h
    split at h
    · rename_i n r h1 h2
      obtain ⟨h3, h4⟩ := placesT_spec hT h2
      simp only [Option.some.injEq] at h
      subst h
      refine ⟨by simp [h3, hT.cel h1 (by simp)], fun g hg => ?_⟩
      rcases List.mem_cons.1 hg with rfl | hg
      · exact celT_info hT h1
      · exact h4 g hg
    · cases h

def fillF (fl : FL) (pl : List (Nat × Nat)) : List Cell → List (Nat × Operand) → Option (List Cell)
  | cs, [] => some cs
  | cs, (i, x) :: r => match pl[i]?, opO fl x with
    | some (off, 1), some (.c y) => match solidF y, setL cs off y with
      | true, some cs' => fillF fl pl cs' r
      | _, _ => none
    | some (off, n), some (.agg ys) => match Nat.beq ys.length n, Nat.ble (off + n) cs.length with
      | true, true => fillF fl pl (spl cs off ys) r
      | _, _ => none
    | _, _ => none
theorem fillF_spec {fl : FL} {pl : List (Nat × Nat)} {place : Nat → Option (Nat × Nat)} (hp : ∀ i q, pl[i]? = some q → place i = some q) : ∀ {ps : List (Nat × Operand)} {cs out : List Cell}, fillF fl pl cs ps = some out → fillE place (look (lk' fl)) cs ps out
  | [], cs, out, h => by simp only [fillF, Option.some.injEq] at h; exact h.symm
  | (i, x) :: r, cs, out, h => by
    simp only [fillF] at h
    split at h
    · rename_i off y h1 h2
      split at h
      · rename_i cs' h3 h4
        obtain ⟨h5, rfl⟩ := setL_spec h4
        have ih := fillF_spec hp h
        exact ⟨off, 1, hp _ _ h1, by rw [opO_look h2]; exact solidF_spec h3, by rw [opO_look h2]; rfl, h5, by rw [opO_look h2]; exact ih⟩
      · cases h
    · rename_i off n ys h1 h2
      split at h
      · rename_i h3 h4
        have h3 := Nat.eq_of_beq_eq_true h3
        have h4 := Nat.le_of_ble_eq_true h4
        have ih := fillF_spec hp h
        exact ⟨off, n, hp _ _ h1, by rw [opO_look h2]; trivial, by rw [opO_look h2]; exact h3, h4, by rw [opO_look h2]; exact ih⟩
      · cases h
    · cases h

def capsF : List AVal → Option (List Cell)
  | [] => some []
  | .c y :: xs => match solidF y, capsF xs with
    | true, some r => some (y :: r)
    | _, _ => none
  | _ => none
theorem capsF_spec : ∀ {xs : List AVal} {cs : List Cell}, capsF xs = some cs → xs = cs.map .c ∧ ∀ y ∈ cs, y.solid
  | [], cs, h => by simp only [capsF, Option.some.injEq] at h; subst h; simp
  | .c y :: xs, cs, h => by
    simp only [capsF] at h
    split at h
    · rename_i r h1 h2
      obtain ⟨h3, h4⟩ := capsF_spec h2
      simp only [Option.some.injEq] at h
      subst h
      refine ⟨by simp [h3], fun z hz => ?_⟩
      rcases List.mem_cons.1 hz with rfl | hz
      · exact solidF_spec h1
      · exact h4 z hz
    · cases h
  | .agg _ :: _, _, h => by cases h
  | .fn _ _ :: _, _, h => by cases h
  | .accv _ :: _, _, h => by cases h
  | .tup _ :: _, _, h => by cases h

def splF : List Cell → Nat → List Cell → Option (List Cell)
  | [], 0, [] => some []
  | [], _, _ => none
  | c :: cs, 0, [] => match splF cs 0 [] with | some r => some (c :: r) | none => none
  | _ :: cs, 0, y :: ys => match splF cs 0 ys with | some r => some (y :: r) | none => none
  | c :: cs, n + 1, ys => match splF cs n ys with | some r => some (c :: r) | none => none
theorem splF_spec : ∀ {cs : List Cell} {n : Nat} {ys cs' : List Cell}, splF cs n ys = some cs' → spl cs n ys = cs' ∧ n + ys.length ≤ cs.length
  | [], 0, [], cs', h => by simp only [splF, Option.some.injEq] at h; subst h; simp [spl]
  | [], 0, y :: ys, cs', h => by simp [splF] at h
  | [], n + 1, ys, cs', h => by simp [splF] at h
  | c :: cs, 0, [], cs', h => by
    simp only [splF] at h
    split at h
    · rename_i r hr
      obtain ⟨h1, h2⟩ := splF_spec hr
      simp only [Option.some.injEq] at h
      subst h
      simp [spl] at h1 ⊢
      exact h1
    · cases h
  | c :: cs, 0, y :: ys, cs', h => by
    simp only [splF] at h
    split at h
    · rename_i r hr
      obtain ⟨h1, h2⟩ := splF_spec hr
      simp only [Option.some.injEq] at h
      subst h
      simp [spl] at h1 ⊢
      exact ⟨h1, by omega⟩
    · cases h
  | c :: cs, n + 1, ys, cs', h => by
    simp only [splF] at h
    split at h
    · rename_i r hr
      obtain ⟨h1, h2⟩ := splF_spec hr
      simp only [Option.some.injEq] at h
      subst h
      simp [spl, Nat.add_right_comm n 1] at h1 ⊢
      exact ⟨h1, by omega⟩
    · cases h

section
variable {P : Program} {T : TT} {mu : FuncId → Bool} {N : Nat} {ops : Array Oper} {fl : FL} {sl : SL} {S S' : Store} {K : St → Prop} {Q : Exit → St → Prop} {l : List Oper}
  {d : Nat} {ty : TypeId} {pos : String} {after : Array Edge}

theorem zg16 {t : TypeId} {ps : Array (Nat × Operand)} {fs : Array Field} {pl : List (Nat × Nat)} {z out : List Cell} (hT : TOk P T) (k : K ⟨lk' ((d, .agg out) :: fl), S'⟩) (hu : undT T t = some (.struct fs) := by exact rfl) (hp : placesT T fs.toList = some pl := by exact rfl)
    (hz : zerF T t = some z := by exact rfl) (hf : fillF fl pl z ps.toList = some out := by exact rfl) :
    Stp P mu ops ⟨some d, .build t ps, ty, pos, after, none⟩ ⟨lk' fl, S'⟩ K := by
  obtain ⟨h1, h2⟩ := placesT_spec hT hp
  obtain ⟨h3, h4⟩ := zerF_spec hT hz
  refine ⟨_, ⟨.agg out, S', ⟨?_, rfl⟩, rfl⟩, by rw [putF_lk]; exact k⟩
  refine ⟨fs, z, out, hT.und hu, fun f hf => h2 f (by simpa using hf), h3, h4, fillF_spec (fun i q hq => ?_) hf, rfl⟩
  rw [← h1] at hq
  simpa [placesOf] using hq

theorem zg17 {g : FuncId} {cap : Array Operand} {xs : List AVal} {cs : List Cell} (_ : TOk P T) (k : K ⟨lk' ((d, .fn g cs) :: fl), S'⟩) (hx : opsO fl cap.toList = some xs := by exact rfl) (hc : capsF xs = some cs := by exact rfl) :
    Stp P mu ops ⟨some d, .makeFunc (.func g) #[] cap, ty, pos, after, none⟩ ⟨lk' fl, S'⟩ K := by
  obtain ⟨h1, h2⟩ := capsF_spec hc
  exact ⟨_, ⟨.fn g cs, S', ⟨⟨rfl, cs, by rw [opsO_look hx, h1], h2, rfl⟩, rfl⟩, rfl⟩, by rw [putF_lk]; exact k⟩

theorem zg18 {e : TypeId} {x : Operand} {ys : List Cell} (_ : TOk P T) (k : K ⟨lk' ((d, .c (.ptr (.loc d) 0)) :: fl), ov ((.loc d, .cells e ys) :: sl) (pushS S)⟩) (hx : opO fl x = some (.agg ys) := by exact rfl) (hf : freeO sl d = true := by exact rfl) :
    Stp P mu ops ⟨some d, .box e x, ty, pos, after, none⟩ ⟨lk' fl, ov sl (pushS S)⟩ K :=
  ⟨_, ⟨_, _, ⟨d, .cells e ys, rfl, freeO_spec hf, ⟨by rw [opO_look hx]; trivial, rfl, by rw [opO_look hx]; rfl⟩, rfl⟩, rfl⟩, by rw [putF_lk, upd_ov]; exact k⟩

theorem zg19 {e : TypeId} {x : Operand} {y : Cell} (_ : TOk P T) (k : K ⟨lk' ((d, .c (.ptr (.loc d) 0)) :: fl), ov ((.loc d, .cells e [y]) :: sl) (pushS S)⟩) (hx : opO fl x = some (.c y) := by exact rfl) (hs : solidF y = true := by exact rfl) (hf : freeO sl d = true := by exact rfl) :
    Stp P mu ops ⟨some d, .box e x, ty, pos, after, none⟩ ⟨lk' fl, ov sl (pushS S)⟩ K := stp_box hx hs hf k

theorem zg20 {t : TypeId} {x : Operand} {m : Nm} {off n : Nat} {ty' : TypeId} {cs : List Cell} (hT : TOk P T) (k : K ⟨lk' ((d, .agg ((cs.drop off).take (n + 1))) :: fl), ov sl S⟩) (hx : opO fl x = some (.c (.ptr m off)) := by exact rfl) (ha : agT T t = some true := by exact rfl) (hn : celT T t = n + 1 := by exact rfl)
    (hm : lkS sl m = some (.cells ty' cs) := by exact lks) (hl : Nat.ble (off + (n + 1)) cs.length = true := by exact rfl) : Stp P mu ops ⟨some d, .load t x, ty, pos, after, none⟩ ⟨lk' fl, ov sl S⟩ K :=
  stp_loada hT hx ha hn hm (Nat.le_of_ble_eq_true hl) k

theorem zg21 {t : TypeId} {x : Operand} {cs : List Leaf} {n : Nat} (hT : TOk P T) (k : K ⟨lk' ((d, .agg ((cs.take (n + 1)).map Leaf.cell)) :: fl), S'⟩) (hx : opO fl x = some (.c (.pim cs)) := by exact rfl) (ha : agT T t = some true := by exact rfl) (hn : celT T t = n + 1 := by exact rfl) (hl : Nat.ble (n + 1) cs.length = true := by exact rfl) :
    Stp P mu ops ⟨some d, .load t x, ty, pos, after, none⟩ ⟨lk' fl, S'⟩ K := stp_loadpa hT hx ha hn (Nat.le_of_ble_eq_true hl) k

theorem zg22 {t : TypeId} {x y : Operand} {m : Nm} {off n : Nat} {ty' : TypeId} {cs ys cs' : List Cell} (hT : TOk P T) (k : K ⟨lk' fl, ov ((m, .cells ty' cs') :: sl) S⟩) (hx : opO fl x = some (.c (.ptr m off)) := by exact rfl) (hy : opO fl y = some (.agg ys) := by exact rfl) (hn : celT T t = n + 1 := by exact rfl)
    (hm : lkS sl m = some (.cells ty' cs) := by exact lks) (h1 : Nat.beq ys.length (n + 1) = true := by exact rfl) (h2 : splF cs off ys = some cs' := by exact rfl) : Stp P mu ops ⟨none, .store t x y, ty, pos, after, none⟩ ⟨lk' fl, ov sl S⟩ K := by
  obtain ⟨rfl, h3⟩ := splF_spec h2
  exact stp_store (o' := .cells ty' (spl cs off ys)) (C := ys.length = n + 1 ∧ off + ys.length ≤ cs.length) hT hx hy hm (by simp only [putO, hn]) ⟨Nat.eq_of_beq_eq_true h1, h3⟩ k

/-- A list of whole numbers, to be appended to. -/
theorem s_intsA {t e : TypeId} {n : Nat} {ps : Array (Nat × Operand)} {k : IntKind} {L : List Int} (hT : TOk P T) (kk : K ⟨lk' ((d, .accv (.loc d)) :: fl), ov ((.loc d, .acc e k L) :: sl) (pushS S)⟩)
    (hp : intsPart fl ps.toList 0 = some (k, L) ∨ (ps.toList = [] ∧ L = []) := by first | exact .inl rfl | exact .inr ⟨rfl, rfl⟩) (ht : undT T t = some (.slice e) := by exact rfl) (hc1 : celT T e = 1 := by exact rfl) (hz : zerF T e = some [.sc (.int k 0)] := by exact rfl)
    (hn : Nat.beq ps.toList.length n = true := by exact rfl) (hsmall : Nat.ble n 1000 = true := by exact rfl) (hf : freeO sl d = true := by exact rfl) :
    Stp P mu ops ⟨some d, .buildSlice t n ps, ty, pos, after, none⟩ ⟨lk' fl, ov sl (pushS S)⟩ K := stp_intsA hT ht hc1 hz hp hn hsmall hf kk

theorem s_makeA {t e : TypeId} {l c : Operand} {a b : Int} {ka kb k : IntKind} {nb : Nat} (hT : TOk P T) (hab : a = b) (hb : 0 ≤ a ∧ (nb : Int) * b ≤ 281474976710656 ∧ b ≤ 9223372036854775807) (kk : K ⟨lk' ((d, .accv (.loc d)) :: fl), ov ((.loc d, .acc e k (List.replicate b.toNat 0)) :: sl) (pushS S)⟩)
    (ht : undT T t = some (.slice e) := by exact rfl) (hc1 : celT T e = 1 := by exact rfl) (hb8 : bytT T e = some nb := by exact rfl) (hz : zerF T e = some [.sc (.int k 0)] := by exact rfl)
    (hl : opO fl l = some (ivl ka a) := by exact rfl) (hc : opO fl c = some (ivl kb b) := by exact rfl) (hf : freeO sl d = true := by exact rfl) :
    Stp P mu ops ⟨some d, .makeSlice t l c, ty, pos, after, none⟩ ⟨lk' fl, ov sl (pushS S)⟩ K := stp_makeA hT ht hc1 hb8 hz hl hc hf hab hb kk

theorem run_eq_nil {t e : TypeId} (ht : P.underlying t = some (.slice e)) (A : Option Addr) (n c : Nat) (w : World) : (Op.equal t (.slice A n c) (.slice none 0 0)).run P w = .ok A.isNone w := by
  have : ∀ d, (Op.equalIn (d + 1) t (.slice A n c) (.slice none 0 0)).run P w = .ok A.isNone w := fun d => by
    cases A <;> simp [Op.equalIn, run_underlying' ht]
  exact this 9999

/-- A list held against nil: what is nil is empty. -/
theorem aw_isnil (hT : TOk P T) {op : BinOp} {x : Operand} {t t1 : TypeId} {e : TypeId} {k : IntKind} {L : List Int} (neg : Bool) (h1 : L = [] → aw P mu N ops Q l ⟨lk' ((d, bvl (!neg)) :: fl), S'⟩) (h2 : aw P mu N ops Q l ⟨lk' ((d, bvl neg) :: fl), S'⟩)
    (hop : op = (if neg then .neq else .eql) := by exact rfl) (hu : undT T t = some (.slice e) := by exact rfl) (hx : opO fl x = some (.c (.ints k L)) := by exact rfl) :
    aw P mu N ops Q (⟨some d, .binOp op t x (.const (.slice none 0 0)) t1, ty, pos, after, none⟩ :: l) ⟨lk' fl, S'⟩ := by
  intro hb B w ρ a hd hn hi
  refine wpList_step fun K hK => ?_
  have hv := hi.sim.look x
  rw [opO_look hx] at hv
  obtain ⟨A, cap, hv, -, -, hv3⟩ := hv
  simp only [Region.wanted, if_true]
  have go : ∀ b : Bool, aw P mu N ops Q l ⟨lk' ((d, bvl b) :: fl), S'⟩ → K (a.put (some d) (.bool b)) w := fun b h => by
    have hdl : ∀ t, some d = some t → t < a.tmps.size := fun t ht => by rw [hn]; exact hb _ List.mem_cons_self t ht
    have hs := hi.sim.put (d := some d) (v := bvl b) (u := .bool b) hi.sim.env (Ext.refl _ _ _) (lk' fl) (fun t => .inr ⟨rfl, fun _ hX => hX.elim⟩) hdl (rfl : Value.bool b = .bool b)
    rw [putF_lk] at hs
    exact hK _ _ (h (fun o ho => hb o (by simp [ho])) B w ρ _ (by rw [put_defers]; exact hd) (by rw [put_size]; exact hn) (hi.step hs (Ext.refl _ _ _) (fun _ h => h.elim)))
  have hrun : (execOp a.eval ⟨some d, .binOp op t x (.const (.slice none 0 0)) t1, ty, pos, after, none⟩).run P w = .ok (.value (.bool (A.isNone != neg))) w := by
    have e1 : a.eval x = .slice A L.length cap := hv
    have e2 : a.eval (.const (.slice none 0 0)) = .slice none 0 0 := rfl
    subst hop
    cases neg
    · simp only [execOp, e1, e2, if_false, Bool.false_eq_true]
      simp [eqGuard, binOp, run_eq_nil (hT.und hu)]
    · simp only [execOp, e1, e2, if_true]
      simp [eqGuard, binOp, run_eq_nil (hT.und hu)]
  unfold Oper.wp
  rw [hrun]
  cases A with
  | none =>
    have hL : L = [] := by
      cases L with
      | nil => rfl
      | cons y ys => obtain ⟨b, off, q, -⟩ := hv3 (by simp); cases q
    have := go (!neg) (h1 hL)
    cases neg <;> exact this
  | some A =>
    have := go neg h2
    cases neg <;> exact this
end
end Go.Abs

/-
  States told anew where what was handed in has been written.
-/
namespace Go.Abs
open Go

theorem outsL_nil_lk {sl : SL} (h : outsL sl = []) (m : Nm) : lkS sl (.out m) = none := by rw [← outsL_lk, h]; rfl

theorem FrzO.of_nm0 {A B : Store} {o : AObj} (h : o.nm0) : FrzO A B o o := by
  cases o with
  | ints ty k L => exact .ints
  | acc ty k L => exact .acc
  | cells ty cs => exact .cells fun i y hy => ⟨y, hy, .base (.keep fun m hm => absurd hm (h y (List.mem_of_getElem? hy) m))⟩

section
variable {P : Program} {mu : FuncId → Bool}
variable {fl fl' : FL} {sl sl' : SL} {S : Store}

theorem frzO (hS : ∀ n b, S n = some b → b.cl S) (hout : ∀ m, lkS sl' (.out m) = lkS sl (.out m)) (hs : FrzS (ov sl (pushS S)) (ov sl' (pushS S)) sl') (hf : FrzF (ov sl (pushS S)) (ov sl' (pushS S)) fl fl') :
    Weak ⟨lk' fl, ov sl (pushS S)⟩ ⟨lk' fl', ov sl' (pushS S)⟩ := by
  refine Weak.frz (fun m o' hm => ?_) (fun m => ?_) (fun t => ?_)
  · simp only [ov] at hm
    split at hm
    · rename_i o1 h1
      obtain rfl := Option.some.inj hm
      exact hs.at m _ h1
    · rename_i h1
      obtain ⟨q, b, rfl, hb, rfl⟩ := pushS_some hm
      refine .inl ⟨b.map .out, by simp only [ov]; rw [← hout, h1]; exact hm, ?_⟩
      cases b with
      | ints ty k L => exact .ints
      | acc ty k L => exact .acc
      | cells ty cs =>
        refine .cells fun i y hy => ⟨y, hy, .base (.keep fun m hm' => ?_)⟩
        have hy := List.mem_of_getElem? hy
        obtain ⟨z, hz, rfl⟩ := List.mem_map.1 hy
        obtain ⟨n, hn, rfl⟩ := Cell.map_at hm'
        have := hS q _ hb z hz n hn
        simp only [ov]
        split
        · simp
        · simp only [pushS]
          cases e : S n with
          | none => exact absurd e this
          | some z => simp
  · simp only [ov, hout]
  · show (lk' fl' t) = _ ∨ _
    simp only [lk']
    cases e : lkO fl' t with
    | none => exact .inl rfl
    | some v =>
      obtain ⟨u, h1, h2⟩ := hf.at t v e
      rw [h1]
      exact .inr h2

theorem frz1 {z : Nm} {o o' : AObj} {sl'' : SL} (hS : ∀ n b, S n = some b → b.cl S) (hm : lkS sl (.out z) = some o) (hn : o'.nm0) (h1 : ∀ m, m ≠ z → lkS sl (.out m) = none) (h2 : outsL sl'' = []) (e : o = o')
    (hs : FrzS (ov sl (pushS S)) (ov ((.out z, o') :: sl'') (pushS S)) sl'') (hf : FrzF (ov sl (pushS S)) (ov ((.out z, o') :: sl'') (pushS S)) fl fl') :
    Weak ⟨lk' fl, ov sl (pushS S)⟩ ⟨lk' fl', ov ((.out z, o') :: sl'') (pushS S)⟩ := by
  subst e
  refine frzO hS (fun m => ?_) ⟨.inl ⟨o, ov_of hm, .of_nm0 hn⟩, hs⟩ hf
  by_cases q : m = z
  · subst q; rw [hm]; simp [lkS]
  · rw [h1 m q]; simp [lkS, q, outsL_nil_lk h2]

theorem frz2 {z y : Nm} {o o' p p' : AObj} {sl'' : SL} (hS : ∀ n b, S n = some b → b.cl S) (hzy : z ≠ y) (hm : lkS sl (.out z) = some o) (hp : lkS sl (.out y) = some p) (hn : o'.nm0) (hn' : p'.nm0) (h1 : ∀ m, m ≠ z → m ≠ y → lkS sl (.out m) = none) (h2 : outsL sl'' = []) (e : o = o') (e' : p = p')
    (hs : FrzS (ov sl (pushS S)) (ov ((.out z, o') :: (.out y, p') :: sl'') (pushS S)) sl'') (hf : FrzF (ov sl (pushS S)) (ov ((.out z, o') :: (.out y, p') :: sl'') (pushS S)) fl fl') :
    Weak ⟨lk' fl, ov sl (pushS S)⟩ ⟨lk' fl', ov ((.out z, o') :: (.out y, p') :: sl'') (pushS S)⟩ := by
  subst e; subst e'
  refine frzO hS (fun m => ?_) ⟨.inl ⟨o, ov_of hm, .of_nm0 hn⟩, .inl ⟨p, ov_of hp, .of_nm0 hn'⟩, hs⟩ hf
  by_cases q : m = z
  · subst q; rw [hm]; simp [lkS]
  · by_cases q2 : m = y
    · subst q2; rw [hp]; simp [lkS, q]
    · rw [h1 m q q2]; simp [lkS, q, q2, outsL_nil_lk h2]

theorem endP1 {T : TT} (hT : TOk P T) {fn : Func} {z : Nm} {o o' : AObj} {res : AVal} {e : Exit} {vs : List AVal} (he : e = .normal ∨ e = .ret) (hS : ∀ n b, S n = some b → b.cl S) (hm : lkS sl (.out z) = some o) (hn : o'.nm0) (h1 : ∀ m, m ≠ z → lkS sl (.out m) = none) (eo : o = o')
    (hf : FrzF (ov sl (pushS S)) (ov [(.out z, o')] (pushS S)) fl fl') (hr : resL T fl' fn.results.toList = some vs) (hfl : flatL vs = true) (hv : oneR vs = res.map .out) : EndP P fn S [(z, o')] res e ⟨lk' fl, ov sl (pushS S)⟩ :=
  ⟨he, T, fl', vs, hT, frz1 (sl'' := []) hS hm hn h1 rfl eo trivial hf, hr, hfl, hv⟩

theorem endP2 {T : TT} (hT : TOk P T) {fn : Func} {z y : Nm} {o o' p p' : AObj} {res : AVal} {e : Exit} {vs : List AVal} (he : e = .normal ∨ e = .ret) (hS : ∀ n b, S n = some b → b.cl S) (hzy : z ≠ y) (hm : lkS sl (.out z) = some o) (hp : lkS sl (.out y) = some p) (hn : o'.nm0) (hn' : p'.nm0) (h1 : ∀ m, m ≠ z → m ≠ y → lkS sl (.out m) = none) (eo : o = o') (ep : p = p')
    (hf : FrzF (ov sl (pushS S)) (ov [(.out z, o'), (.out y, p')] (pushS S)) fl fl') (hr : resL T fl' fn.results.toList = some vs) (hfl : flatL vs = true) (hv : oneR vs = res.map .out) : EndP P fn S [(z, o'), (y, p')] res e ⟨lk' fl, ov sl (pushS S)⟩ :=
  ⟨he, T, fl', vs, hT, frz2 (sl'' := []) hS hzy hm hp hn hn' h1 rfl eo ep trivial hf, hr, hfl, hv⟩

theorem cells_nm0 {ty : TypeId} {ls : List Leaf} : (AObj.cells ty (ls.map Leaf.cell)).nm0 := fun _ hx m => leaves_nm0 hx m
theorem ints_nm0 {ty : TypeId} {k : IntKind} {L : List Int} : (AObj.ints ty k L).nm0 := trivial

/-- A contract of one tracked block, in and out. -/
theorem aproc1 {f : FuncId} {fn : Func} {c : Code} {args : List AVal} {z : Nm} {o o' : AObj} {res : AVal} (hf : P.funcs[f]? = some fn) (hb : fn.body = some c) (hname : (fn.name == "runtime.NumGoroutine") = false)
    (hm : P.follows .mixedOrders = true) (hok : okC fn.ntmps mu c = true) (hl : args.length ≤ fn.ntmps) (hA : ∀ q x, x ∈ args → x.at q → q = z) (hz : ∃ x ∈ args, x.at z) (hR : ∀ q, res.at q → q = z)
    (hn : o.nm0) (hn' : o'.nm0)
    (h : ∀ S, (∀ n b, S n = some b → b.cl S) → awp P mu fn.ntmps c (EndP P fn S [(z, o')] res) ⟨lk' (entryL 0 (args.map (·.map .out))), ov [(.out z, o)] (pushS S)⟩) : AProc P f args [(z, o)] [(z, o')] res :=
  aproc hf hb hname hm hok hl (fun q x hx hq => ⟨o, by rw [hA q x hx hq]; simp⟩) (fun q hq => by rw [hR q hq]; exact hz) (fun p hp => by simp at hp; rw [hp]; exact hz)
    (fun p hp => by simp at hp; rw [hp]; exact ⟨hn, hz⟩) (fun p hp => by simp at hp; rw [hp]; exact hn') (by simp) h

theorem aproc2 {f : FuncId} {fn : Func} {c : Code} {args : List AVal} {z y : Nm} {o o' p p' : AObj} {res : AVal} (hzy : z ≠ y) (hf : P.funcs[f]? = some fn) (hb : fn.body = some c) (hname : (fn.name == "runtime.NumGoroutine") = false)
    (hm : P.follows .mixedOrders = true) (hok : okC fn.ntmps mu c = true) (hl : args.length ≤ fn.ntmps) (hA : ∀ q x, x ∈ args → x.at q → q = z ∨ q = y) (hz : ∃ x ∈ args, x.at z) (hy : ∃ x ∈ args, x.at y) (hR : ∀ q, res.at q → q = z ∨ q = y)
    (hn : o.nm0) (hn' : o'.nm0) (hp : p.nm0) (hp' : p'.nm0)
    (h : ∀ S, (∀ n b, S n = some b → b.cl S) → awp P mu fn.ntmps c (EndP P fn S [(z, o'), (y, p')] res) ⟨lk' (entryL 0 (args.map (·.map .out))), ov [(.out z, o), (.out y, p)] (pushS S)⟩) : AProc P f args [(z, o), (y, p)] [(z, o'), (y, p')] res :=
  aproc hf hb hname hm hok hl (fun q x hx hq => by rcases hA q x hx hq with rfl | rfl; exact ⟨o, by simp⟩; exact ⟨p, by simp⟩) (fun q hq => by rcases hR q hq with rfl | rfl; exact hz; exact hy)
    (fun r hr => by simp at hr; rcases hr with rfl | rfl; exact hz; exact hy) (fun r hr => by simp at hr; rcases hr with rfl | rfl; exact ⟨hn, hz⟩; exact ⟨hp, hy⟩)
    (fun r hr => by simp at hr; rcases hr with rfl | rfl; exact hn'; exact hp') (by simp [hzy]) h
end

section
variable {P : Program} {T : TT} {mu : FuncId → Bool} {N : Nat} {ops : Array Oper} {fl : FL} {sl : SL} {S S' : Store} {K : St → Prop}
  {d : Nat} {ty : TypeId} {pos : String} {after : Array Edge}
theorem s_app8 {s x : Operand} {tys : Array TypeId} {t e : TypeId} {as : Array Operand} {m : Nm} {k : IntKind} {L Y : List Int} {xv : AVal} (hT : TOk P T) (hY : srcE (ov sl S) xv k Y)
    (hl : L.length + Y.length ≤ 17592186044416) (kk : K ⟨lk' ((d, .accv m) :: killL m fl), ov ((m, .acc e k (L ++ Y)) :: sl) S⟩)
    (ha : as.toList = [s, x] := by exact rfl) (ht : tys.toList = [t, t] := by exact rfl) (hu : undT T t = some (.slice e) := by exact rfl) (hc1 : celT T e = 1 := by exact rfl)
    (hz : zerT T e = some (.int k 0) := by exact rfl) (hs : opO fl s = some (.accv m) := by exact rfl) (hx : opO fl x = some xv := by exact rfl) (hm : lkS sl m = some (.acc e k L) := by exact lks)
    (ho : m.isOut = false := by exact rfl) (hb : bytT T e = some 8 := by exact rfl) :
    Stp P mu ops ⟨some d, .call ⟨.builtin .append, as, tys⟩, ty, pos, after, none⟩ ⟨lk' fl, ov sl S⟩ K := stp_app hT ha ht hu hc1 hz hs hx hm ho hY hb ⟨by omega, by simp only [maxLen]; omega⟩ kk
theorem s_app08 {s x : Operand} {tys : Array TypeId} {t e : TypeId} {as : Array Operand} {k : IntKind} {Y : List Int} {xv : AVal} (hT : TOk P T) (hY : srcE (ov sl (pushS S)) xv k Y)
    (hl : Y.length ≤ 17592186044416) (kk : K ⟨lk' ((d, .accv (.loc d)) :: killL (.loc d) fl), ov ((.loc d, .acc e k Y) :: sl) (pushS S)⟩)
    (ha : as.toList = [s, x] := by exact rfl) (ht : tys.toList = [t, t] := by exact rfl) (hu : undT T t = some (.slice e) := by exact rfl) (hc1 : celT T e = 1 := by exact rfl)
    (hz : zerT T e = some (.int k 0) := by exact rfl) (hs : opO fl s = some nils := by exact rfl) (hx : opO fl x = some xv := by exact rfl) (hf : freeO sl d = true := by exact rfl) (hb : bytT T e = some 8 := by exact rfl) :
    Stp P mu ops ⟨some d, .call ⟨.builtin .append, as, tys⟩, ty, pos, after, none⟩ ⟨lk' fl, ov sl (pushS S)⟩ K := stp_app0 hT ha ht hu hc1 hz hs hx hf hY hb ⟨by omega, by simp only [maxLen]; omega⟩ kk
end

theorem ovNe {sl : SL} {S : Store} {m : Nm} {o : AObj} (h : lkS sl m = some o) : ov sl S m ≠ none := by rw [ov_of h]; simp
theorem fF {A B : Store} {fl r : FL} {t : Nat} {u v : AVal} (h : FrzV A B u v) (h2 : FrzF A B fl r) (e : lkO fl t = some u := by exact rfl) : FrzF A B fl ((t, v) :: r) := ⟨⟨u, e, h⟩, h2⟩
theorem fS {A B : Store} {r : SL} {m : Nm} {o o' : AObj} (h : FrzO A B o o') (h2 : FrzS A B r) (e : A m = some o := by exact ov_of lks) : FrzS A B ((m, o') :: r) := ⟨.inl ⟨o, e, h⟩, h2⟩
end Go.Abs

/-
  A block that is written no more: all that look at it are told as they stand.
-/
namespace Go.Abs
open Go

def Nm.isLoc (d : Nat) : Nm → Bool
  | .loc a => Nat.beq a d
  | _ => false
theorem Nm.isLoc_t {d : Nat} {m : Nm} (h : m.isLoc d = true) : m = .loc d := by
  cases m with
  | loc a => exact congrArg Nm.loc (Nat.eq_of_beq_eq_true h)
  | _ => cases h
theorem Nm.isLoc_f {d : Nat} {m : Nm} (h : m.isLoc d = false) : m ≠ .loc d := fun e => by
  subst e; simp [Nm.isLoc] at h

def Cell.hasL (d : Nat) : Cell → Bool
  | .win m _ _ _ => m.isLoc d
  | .ptr m _ => m.isLoc d
  | _ => false
theorem Cell.hasL_f {d : Nat} {x : Cell} (h : x.hasL d = false) {m : Nm} (hm : x.at m) : m ≠ .loc d := by
  cases x with
  | win n _ _ _ => rw [← show n = m from hm]; exact Nm.isLoc_f h
  | ptr n _ => rw [← show n = m from hm]; exact Nm.isLoc_f h
  | _ => exact hm.elim

@[simp] theorem Leaf.hasL_cell (d : Nat) (l : Leaf) : l.cell.hasL d = false := by cases l <;> rfl

def leafC : Cell → Option Leaf
  | .sc v => some (.sc v)
  | .ints k L => some (.ints k L)
  | _ => none
def leafsC : List Cell → Option (List Leaf)
  | [] => some []
  | x :: xs => match leafC x, leafsC xs with
    | some y, some ys => some (y :: ys)
    | _, _ => none
theorem leafC_spec {x : Cell} {l : Leaf} (h : leafC x = some l) : x = l.cell := by
  cases x <;> simp only [leafC] at h <;> first | cases h; done | (obtain rfl := Option.some.inj h; rfl)
theorem leafsC_spec : ∀ {xs : List Cell} {ls : List Leaf}, leafsC xs = some ls → xs = ls.map Leaf.cell
  | [], ls, h => by simp only [leafsC, Option.some.injEq] at h; subst h; rfl
  | x :: xs, ls, h => by
    simp only [leafsC] at h
    split at h
    · rename_i y ys h1 h2
      obtain rfl := Option.some.inj h
      rw [leafC_spec h1, leafsC_spec h2]; rfl
    · cases h

def fzC (d : Nat) (o : AObj) : Cell → Cell
  | .win m off len cm => match m.isLoc d with
    | false => .win m off len cm
    | true => match o with
      | .ints _ k L => .ints k ((L.drop off).take len)
      | _ => .junk
  | .ptr m off => match m.isLoc d with
    | false => .ptr m off
    | true => match o with
      | .cells _ cs => match leafsC (cs.drop off) with
        | some ls => .pim ls
        | none => .junk
      | _ => .junk
  | x => x
def fzV (d : Nat) (o : AObj) : AVal → AVal
  | .c x => .c (fzC d o x)
  | .agg cs => .agg (cs.map (fzC d o))
  | .fn f cs => match cs.any (Cell.hasL d) with
    | true => .c .junk
    | false => .fn f cs
  | .accv m => match m.isLoc d with
    | false => .accv m
    | true => match o with
      | .acc _ k L => .c (.ints k L)
      | _ => .c .junk
  | .tup _ => .c .junk

def fzCP (d : Nat) (o : AObj) : Cell → Prop
  | .win m off len _ => match m.isLoc d with
    | false => True
    | true => match o with
      | .ints _ _ L => off + len ≤ L.length
      | _ => True
  | _ => True
def fzCsP (d : Nat) (o : AObj) : List Cell → Prop
  | [] => True
  | x :: xs => fzCP d o x ∧ fzCsP d o xs
def fzP (d : Nat) (o : AObj) : FL → Prop
  | [] => True
  | (_, .c (.win m off len cm)) :: r => fzCP d o (.win m off len cm) ∧ fzP d o r
  | (_, .agg cs) :: r => fzCsP d o cs ∧ fzP d o r
  | _ :: r => fzP d o r

def delL (d : Nat) : SL → SL
  | [] => []
  | (m, o) :: r => match m.isLoc d with
    | true => delL d r
    | false => (m, o) :: delL d r
theorem delL_at (d : Nat) : ∀ sl : SL, lkS (delL d sl) (.loc d) = none
  | [] => rfl
  | (m, o) :: r => by
    simp only [delL]
    cases e : m.isLoc d with
    | true => exact delL_at d r
    | false =>
      simp only [lkS]
      rw [if_neg (fun q => Nm.isLoc_f e q.symm)]
      exact delL_at d r
theorem delL_ne (d : Nat) {q : Nm} (hq : q ≠ .loc d) : ∀ sl : SL, lkS (delL d sl) q = lkS sl q
  | [] => rfl
  | (m, o) :: r => by
    simp only [delL]
    cases e : m.isLoc d with
    | true =>
      simp only [lkS]
      rw [if_neg (fun h => hq (h.trans (Nm.isLoc_t e)))]
      exact delL_ne d hq r
    | false => simp only [lkS]; rw [delL_ne d hq r]

/-- No other block looks at it. -/
def noL (d : Nat) : SL → Bool
  | [] => true
  | (m, .cells _ cs) :: r => match m.isLoc d, cs.any (Cell.hasL d) with
    | false, true => false
    | _, _ => noL d r
  | _ :: r => noL d r
theorem noL_spec {d : Nat} : ∀ {sl : SL}, noL d sl = true → ∀ m ty cs, lkS sl m = some (.cells ty cs) → m ≠ .loc d → ∀ x ∈ cs, x.hasL d = false
  | (n, .cells ty0 cs0) :: r, h, m, ty, cs, hm, hne, x, hx => by
    simp only [noL] at h
    simp only [lkS] at hm
    split at hm
    · rename_i e
      subst e
      simp only [Option.some.injEq, AObj.cells.injEq] at hm
      obtain ⟨rfl, rfl⟩ := hm
      cases e1 : m.isLoc d with
      | true => exact absurd (Nm.isLoc_t e1) hne
      | false =>
        cases e2 : cs0.any (Cell.hasL d) with
        | true => rw [e1, e2] at h; cases h
        | false => exact (by simpa using List.any_eq_false.1 e2 x hx)
    · refine noL_spec (sl := r) ?_ m ty cs hm hne x hx
      split at h
      · cases h
      · exact h
  | (n, .ints _ _ _) :: r, h, m, ty, cs, hm, hne, x, hx => by
    simp only [lkS] at hm
    split at hm
    · cases hm
    · exact noL_spec (sl := r) h m ty cs hm hne x hx
  | (n, .acc _ _ _) :: r, h, m, ty, cs, hm, hne, x, hx => by
    simp only [lkS] at hm
    split at hm
    · cases hm
    · exact noL_spec (sl := r) h m ty cs hm hne x hx

section
variable {P : Program} {mu : FuncId → Bool} {N : Nat} {ops : Array Oper} {fl : FL} {sl : SL} {S : Store} {Q : Exit → St → Prop} {l : List Oper}

theorem fzCsP_at {d : Nat} {o : AObj} : ∀ {cs : List Cell}, fzCsP d o cs → ∀ x ∈ cs, fzCP d o x
  | y :: ys, ⟨h1, h2⟩, x, hx => by
    rcases List.mem_cons.1 hx with rfl | hx
    · exact h1
    · exact fzCsP_at h2 x hx
theorem fzP_at {d : Nat} {o : AObj} : ∀ {fl : FL}, fzP d o fl → ∀ t v, lkO fl t = some v → (∀ x, v = .c x → fzCP d o x) ∧ ∀ cs, v = .agg cs → fzCsP d o cs
  | (s, u) :: r, h, t, v, hv => by
    simp only [lkO] at hv
    split at hv
    · obtain rfl := Option.some.inj hv
      refine ⟨fun x e => ?_, fun cs e => ?_⟩
      · subst e
        cases x <;> first | exact h.1 | trivial
      · subst e; exact h.1
    · refine fzP_at (fl := r) ?_ t v hv
      cases u with
      | c x => cases x <;> first | exact h.2 | exact h
      | agg cs => exact h.2
      | _ => exact h
theorem lkO_map (f : AVal → AVal) : ∀ (fl : FL) (t : Nat), lkO (fl.map fun p => (p.1, f p.2)) t = (lkO fl t).map f
  | [], t => rfl
  | (s, u) :: r, t => by
    simp only [List.map_cons, lkO]
    cases Nat.beq s t with
    | true => rfl
    | false => exact lkO_map f r t

theorem fzC_frz {A B : Store} {d : Nat} {o : AObj} (hA : A (.loc d) = some o) (hB : B (.loc d) = none) {x : Cell} (hk : x.hasL d = false → ∀ m, x.at m → B m ≠ none) (hp : fzCP d o x) : FrzC A B x (fzC d o x) := by
  have keep : x.hasL d = false → FrzC A B x x := fun h => .base (.keep (hk h))
  cases x with
  | win m off len cm =>
    simp only [fzC]
    cases e : m.isLoc d with
    | false => exact keep e
    | true =>
      have := Nm.isLoc_t e
      subst this
      simp only [fzCP, e] at hp
      cases o with
      | ints ty k L => exact .base (.win hA hB hp rfl)
      | cells ty cs => exact .base .junk
      | acc ty k L => exact .base .junk
  | ptr m off =>
    simp only [fzC]
    cases e : m.isLoc d with
    | false => exact keep e
    | true =>
      have := Nm.isLoc_t e
      subst this
      cases o with
      | ints ty k L => exact .base .junk
      | acc ty k L => exact .base .junk
      | cells ty cs =>
        simp only
        cases e2 : leafsC (cs.drop off) with
        | none => exact .base .junk
        | some ls =>
          have e3 := leafsC_spec e2
          refine .ptr hA hB fun j l hj => ⟨l.cell, ?_, .keep fun q hq => absurd hq (l.cell_nm q)⟩
          have : (cs.drop off)[j]? = some l.cell := by rw [e3]; simp [hj]
          rw [List.getElem?_drop] at this
          exact this
  | sc v => exact keep rfl
  | ints k L => exact keep rfl
  | intc k L n => exact keep rfl
  | seq n L => exact keep rfl
  | pim ls => exact keep rfl
  | junk => exact keep rfl

theorem Weak.fz {d : Nat} {o : AObj} (hm : lkS sl (.loc d) = some o) (hn : noL d sl = true) (hp : fzP d o fl) : Weak ⟨lk' fl, ov sl (pushS S)⟩ ⟨lk' (fl.map fun p => (p.1, fzV d o p.2)), ov (delL d sl) (pushS S)⟩ := fun w ρ tm hs => by
  have hA : ov sl (pushS S) (.loc d) = some o := ov_of hm
  have hB : ov (delL d sl) (pushS S) (.loc d) = none := by simp [ov, delL_at, pushS]
  have hBA : ∀ q, q ≠ .loc d → ov (delL d sl) (pushS S) q = ov sl (pushS S) q := fun q hq => by simp [ov, delL_ne d hq]
  have hcl := hs.env.cl
  refine (Weak.frz (st := ⟨lk' fl, ov sl (pushS S)⟩) (F := ⟨lk' (fl.map fun p => (p.1, fzV d o p.2)), ov (delL d sl) (pushS S)⟩) (fun m o' hm' => ?_) (fun m => hBA _ (fun e => by cases e)) (fun t => ?_)) w ρ tm hs
  · have hne : m ≠ .loc d := fun e => by
      subst e
      have hm3 : ov (delL d sl) (pushS S) (.loc d) = some o' := hm'
      rw [hB] at hm3; cases hm3
    have hm2 : ov sl (pushS S) m = some o' := by rw [← hBA m hne]; exact hm'
    refine .inl ⟨o', hm2, ?_⟩
    cases o' with
    | ints ty k L => exact .ints
    | acc ty k L => exact .acc
    | cells ty cs =>
      refine .cells fun i y hy => ⟨y, hy, .base (.keep fun q hq => ?_)⟩
      have hy := List.mem_of_getElem? hy
      have h1 := hcl m _ hm2 y hy q hq
      have hqd : q ≠ .loc d := by
        cases e : lkS sl m with
        | some o2 =>
          have : o2 = .cells ty cs := by simp only [ov, e] at hm2; exact Option.some.inj hm2
          rw [this] at e
          exact Cell.hasL_f (noL_spec hn m ty cs e hne y hy) hq
        | none =>
          simp only [ov, e] at hm2
          obtain ⟨a, b, rfl, h2, h3⟩ := pushS_some hm2
          cases b with
          | cells ty' cs' =>
            simp only [AObj.map, AObj.cells.injEq] at h3
            obtain ⟨-, rfl⟩ := h3
            obtain ⟨z, hz, rfl⟩ := List.mem_map.1 hy
            obtain ⟨n, hn, rfl⟩ := Cell.map_at hq
            intro e; cases e
          | ints ty' k' L' => cases h3
          | acc ty' k' L' => cases h3
      show ov (delL d sl) (pushS S) q ≠ none
      rw [hBA q hqd]; exact h1
  · show lk' _ t = _ ∨ _
    simp only [lk', lkO_map]
    cases e : lkO fl t with
    | none => exact .inl rfl
    | some v =>
      simp only [Option.map_some, Option.getD_some]
      have hv := hs.fr t
      have hvc := hv.cl
      have e0 : lk' fl t = v := by simp [lk', e]
      simp only [e0] at hv hvc
      obtain ⟨hp1, hp2⟩ := fzP_at hp t v e
      cases v with
      | c x => exact .inr (.c (fzC_frz hA hB (fun h m hm => by show ov (delL d sl) (pushS S) m ≠ none; rw [hBA m (Cell.hasL_f h hm)]; exact hvc m hm) (hp1 x rfl)))
      | agg cs =>
        refine .inr (.agg (by simp) fun i x y hx hy => ?_)
        rw [List.getElem?_map, hx, Option.map_some] at hy
        obtain rfl := Option.some.inj hy
        have hxm := List.mem_of_getElem? hx
        exact fzC_frz hA hB (fun h m hm => by show ov (delL d sl) (pushS S) m ≠ none; rw [hBA m (Cell.hasL_f h hm)]; exact hvc m ⟨x, hxm, hm⟩) (fzCsP_at (hp2 cs rfl) x hxm)
      | fn f cs =>
        simp only [fzV]
        cases e2 : cs.any (Cell.hasL d) with
        | true => exact .inl rfl
        | false =>
          refine .inr (.fn fun x hx m hm => ?_)
          have := List.any_eq_false.1 e2 x hx
          show ov (delL d sl) (pushS S) m ≠ none
          rw [hBA m (Cell.hasL_f (by simpa using this) hm)]; exact hvc m ⟨x, hx, hm⟩
      | accv m =>
        simp only [fzV]
        cases e2 : m.isLoc d with
        | false =>
          have hmd := Nm.isLoc_f e2
          obtain ⟨ty, k, L, ho, -⟩ := hv
          exact .inr (.accK ho (by rw [← ho]; exact hBA m hmd))
        | true =>
          have := Nm.isLoc_t e2
          subst this
          cases o with
          | acc ty k L => exact .inr (.acc hA hB)
          | cells ty cs => exact .inl rfl
          | ints ty k L => exact .inl rfl
      | tup xs => exact .inl rfl

theorem aw_fz (d : Nat) {o : AObj} (h : aw P mu N ops Q l ⟨lk' (fl.map fun p => (p.1, fzV d o p.2)), ov (delL d sl) (pushS S)⟩) (hp : fzP d o fl) (hm : lkS sl (.loc d) = some o := by exact lks) (hn : noL d sl = true := by first | exact rfl | simp [noL, Nm.isLoc, addL, delL]) :
    aw P mu N ops Q l ⟨lk' fl, ov sl (pushS S)⟩ := aw_weak _ (Weak.fz hm hn hp) h
theorem awp_fz (d : Nat) {o : AObj} {c : Code} (h : awp P mu N c Q ⟨lk' (fl.map fun p => (p.1, fzV d o p.2)), ov (delL d sl) (pushS S)⟩) (hp : fzP d o fl) (hm : lkS sl (.loc d) = some o := by exact lks) (hn : noL d sl = true := by first | exact rfl | simp [noL, Nm.isLoc, addL, delL]) :
    awp P mu N c Q ⟨lk' fl, ov sl (pushS S)⟩ := awp_weak _ (Weak.fz hm hn hp) h
end
end Go.Abs

/-
  Functions that hand out a new block, whatever they tell of it; functions that only read blocks; an append to a list of one's own that may move.
-/
namespace Go.Abs
open Go

/-- f hands out a new block ob; what it tells is res of the block's name. -/
structure AMade (P : Program) (f : FuncId) (args : List AVal) (res : Nm → AVal) (ob : AObj) : Prop where
  calls : ∀ Φ, ACalls P f args Φ res (fun n => [(n, ob)])
  args0 : ∀ x ∈ args, nm0 x
  resM : ∀ (φ : Nm → Nm) n, (res n).map φ = res (φ n)
  resN : ∀ n m, (res n).at m → m = n
  ob0 : ob.nm0

/-- f reads the blocks pre, and writes nothing. -/
structure ARead (P : Program) (f : FuncId) (args : List AVal) (pre : SL) (res : AVal) : Prop where
  calls : ∀ Φ, (∀ p ∈ pre, Φ p.1 = some p.2) → ACalls P f args Φ (fun _ => res) (fun _ => [])
  nmR : ∀ q, res.at q → ∃ x ∈ args, x.at q

section
variable {P : Program} {mu : FuncId → Bool}

theorem AProc.read {f : FuncId} {args : List AVal} {m : Nm} {o : AObj} {res : AVal} (h : AProc P f args [(m, o)] [(m, o)] res) (hm : ∃ x ∈ args, x.at m) : ARead P f args [(m, o)] res where
  nmR := h.nmR
  calls Φ hΦ n S hag hn w ρ vs he hvs := by
    have hS : S m = some o := by rw [hag m hm]; exact hΦ (m, o) (by simp)
    have e : updL S [(m, o)] = S := by simp only [updL]; exact upd_self hS
    have := h.calls Φ hΦ n S hag hn w ρ vs he hvs
    rw [e] at this
    rcases this with h1 | ⟨v, -, -, hu⟩
    · exact .inl h1
    · cases hu

def EndG (P : Program) (fn : Func) (S : Store) (res : Nm → AVal) (ob : AObj) (e : Exit) (st : St) : Prop :=
  (e = .normal ∨ e = .ret) ∧ ∃ T fl l vs, TOk P T ∧ l.isOut = false ∧ Weak st ⟨lk' fl, ov [(l, ob)] (pushS S)⟩ ∧ resL T fl fn.results.toList = some vs ∧ flatL vs = true ∧ oneR vs = res l

theorem amade {f : FuncId} {fn : Func} {c : Code} {args : List AVal} {res : Nm → AVal} {ob : AObj} (hf : P.funcs[f]? = some fn) (hb : fn.body = some c) (hname : (fn.name == "runtime.NumGoroutine") = false)
    (hm : P.follows .mixedOrders = true) (hok : okC fn.ntmps mu c = true) (hl : args.length ≤ fn.ntmps) (ha : ∀ x ∈ args, nm0 x) (resM : ∀ (φ : Nm → Nm) n, (res n).map φ = res (φ n)) (resN : ∀ n m, (res n).at m → m = n) (ob0 : ob.nm0)
    (h : ∀ S, (∀ n b, S n = some b → b.cl S) → awp P mu fn.ntmps c (EndG P fn S res ob) ⟨lk' (entryL 0 args), ov [] (pushS S)⟩) : AMade P f args res ob := by
  refine ⟨fun Φ => acalls hf hb hname hm hok hl fun n S _ hn hcl => ?_, ha, resM, resN, ob0⟩
  refine awp_weak _ (entry_weak args S) ?_
  have e1 : args.map (·.map .out) = args := by
    conv => rhs; rw [← List.map_id args]
    exact List.map_congr_left fun x hx => AVal.map_nm0 (ha x hx)
  rw [e1]
  refine awp_post (awp_mono (h S hcl) ?_)
  rintro e st ⟨he, T, fl, l, vs, hT, hlo, h1, h2, h3, h4⟩
  have hne : ∀ m, S m ≠ none → m ≠ n := fun m hm e => hm (by rw [e]; exact hn)
  refine ⟨_, h1, he, _, l, resL_spec hT h2, flatL_spec h3, hlo, ⟨fun m m' q1 q2 e => ?_, fun m o hm => ?_, fun m o hm => ?_⟩, fun m hm => ?_, ?_⟩
  · simp only [updL, upd] at q1 q2
    by_cases a : m = n
    · subst a
      rw [if_pos rfl] at e
      by_cases b : m' = m
      · exact b.symm
      · rw [if_neg b] at e
        subst e; cases hlo
    · by_cases b : m' = n
      · subst b
        rw [if_pos rfl, if_neg a] at e
        subst e; cases hlo
      · rw [if_neg a, if_neg b] at e; injection e
  · simp only [updL, upd] at hm
    by_cases a : m = n
    · subst a
      rw [if_pos rfl] at hm
      obtain rfl := Option.some.inj hm
      rw [if_pos rfl, AObj.map_nm0 ob0]
      simp [ov, lkS]
    · rw [if_neg a] at hm
      rw [if_neg a]
      have e0 : (o.map fun m => if m = n then l else .out m) = o.map .out := by
        have hc := hcl m o hm
        cases o with
        | ints ty k L => rfl
        | acc ty k L => rfl
        | cells ty cs =>
          simp only [AObj.map]
          congr 1
          exact Cell.maps_congr fun x hx q hq => by rw [if_neg (hne q (hc x hx q hq))]
      rw [e0]
      have : ¬ Nm.out m = l := fun q => by subst q; cases hlo
      show ov _ (pushS S) _ = _
      simp only [ov, lkS, if_neg this, pushS, hm]
      rfl
  · simp only [updL, upd] at hm
    by_cases a : m = n
    · subst a
      rw [if_pos rfl] at hm
      obtain rfl := Option.some.inj hm
      exact AObj.cl_nm0 ob0
    · rw [if_neg a] at hm
      exact cl_mono (fun q hq => upd_dom hq) (hcl m o hm)
  · have : m = n := resN n m hm
    subst this
    simp [updL, upd]
  · rw [h4, resM, if_pos rfl]

theorem endG {T : TT} (hT : TOk P T) {fn : Func} {S : Store} {res : Nm → AVal} {ob : AObj} {e : Exit} {fl fl' : FL} {sl : SL} {l : Nm} {vs : List AVal} (he : e = .normal ∨ e = .ret) (hS : ∀ n b, S n = some b → b.cl S) (hl : l.isOut = false) (ho : outsL sl = [])
    (hs : FrzS (ov sl (pushS S)) (ov [(l, ob)] (pushS S)) [(l, ob)]) (hf : FrzF (ov sl (pushS S)) (ov [(l, ob)] (pushS S)) fl fl')
    (hr : resL T fl' fn.results.toList = some vs) (hfl : flatL vs = true) (h1 : oneR vs = res l) : EndG P fn S res ob e ⟨lk' fl, ov sl (pushS S)⟩ :=
  ⟨he, T, fl', l, vs, hT, hl, frz hS (by rw [ho]; cases l <;> first | rfl | cases hl) hs hf, hr, hfl, h1⟩

variable {T : TT} {N : Nat} {ops : Array Oper} {fl : FL} {sl : SL} {S : Store} {K : St → Prop} {Q : Exit → St → Prop} {l : List Oper} {d : Nat} {ty : TypeId} {pos : String} {after : Array Edge}

theorem s_made {f : FuncId} {as : Array Operand} {tys : Array TypeId} {xs args : List AVal} {res : Nm → AVal} {ob : AObj} (hc : AMade P f args res ob) (k : K ⟨lk' ((d, res (.loc d)) :: fl), ov ((.loc d, ob) :: sl) (pushS S)⟩) (hx : opsO fl as.toList = some xs := by exact rfl)
    (hle : ALes xs args := by repeat (first | exact trivial | refine ⟨ALe.refl _, ?_⟩ | refine ⟨.inr (.inl ⟨_, rfl, rfl⟩), ?_⟩)) (hf : freeO sl d = true := by exact rfl) :
    Stp P mu ops ⟨some d, .call ⟨.value (.func f), as, tys⟩, ty, pos, after, none⟩ ⟨lk' fl, ov sl (pushS S)⟩ K :=
  stp_call (hc.calls (ov sl (pushS S))) rfl hx (by simpa using hle) hf (fun _ _ => rfl)
    ⟨fun p hp => .inl (by simp at hp; rw [hp]; rfl), .inr (.inr ⟨d, _, rfl, rfl⟩), fun m hm => .inl ⟨hc.resN _ _ hm, ob, by rw [hc.resN _ _ hm]; simp⟩,
      fun p hp ty cs e x hx m hm => by
        simp at hp; subst hp
        have := hc.ob0
        simp only at e
        rw [e] at this
        exact absurd hm (this x hx m)⟩ k

theorem s_read {f : FuncId} {as : Array Operand} {tys : Array TypeId} {xs args : List AVal} {pre : SL} {res : AVal} (hc : ARead P f args pre res) (k : K ⟨lk' ((d, res) :: fl), ov sl (pushS S)⟩)
    (hpre : ∀ p ∈ pre, lkS sl p.1 = some p.2) (hx : opsO fl as.toList = some xs := by exact rfl)
    (hle : ALes xs args := by repeat (first | exact trivial | refine ⟨ALe.refl _, ?_⟩ | refine ⟨.inr (.inl ⟨_, rfl, rfl⟩), ?_⟩)) (hf : freeO sl d = true := by exact rfl) :
    Stp P mu ops ⟨some d, .call ⟨.value (.func f), as, tys⟩, ty, pos, after, none⟩ ⟨lk' fl, ov sl (pushS S)⟩ K :=
  stp_call (hc.calls (ov sl (pushS S)) fun p hp => ov_of (hpre p hp)) rfl hx (by simpa using hle) hf (fun _ _ => rfl)
    ⟨by simp, .inl rfl, fun m hm => .inr (hc.nmR m hm), by simp⟩ k

/-! ### An append to a list of one's own -/
def kilV (q : Nat) : AVal → AVal
  | .c x => match x.hasL q with | true => .c .junk | false => .c x
  | .agg cs => match cs.any (Cell.hasL q) with | true => .c .junk | false => .agg cs
  | .fn f cs => match cs.any (Cell.hasL q) with | true => .c .junk | false => .fn f cs
  | .accv m => match m.isLoc q with | true => .c .junk | false => .accv m
  | .tup _ => .c .junk

theorem kilV_cases (q : Nat) (x : AVal) : kilV q x = .c .junk ∨ (kilV q x = x ∧ ∀ m, x.at m → m ≠ .loc q) := by
  cases x with
  | c x =>
    simp only [kilV]
    cases e : x.hasL q with
    | true => exact .inl rfl
    | false => exact .inr ⟨rfl, fun m hm => Cell.hasL_f e hm⟩
  | agg cs =>
    simp only [kilV]
    cases e : cs.any (Cell.hasL q) with
    | true => exact .inl rfl
    | false => exact .inr ⟨rfl, fun m ⟨y, hy, hm⟩ => Cell.hasL_f (by simpa using List.any_eq_false.1 e y hy) hm⟩
  | fn f cs =>
    simp only [kilV]
    cases e : cs.any (Cell.hasL q) with
    | true => exact .inl rfl
    | false => exact .inr ⟨rfl, fun m ⟨y, hy, hm⟩ => Cell.hasL_f (by simpa using List.any_eq_false.1 e y hy) hm⟩
  | accv n =>
    simp only [kilV]
    cases e : n.isLoc q with
    | true => exact .inl rfl
    | false => exact .inr ⟨rfl, fun m hm => by rw [← show n = m from hm]; exact Nm.isLoc_f e⟩
  | tup xs => exact .inl rfl

theorem freeO_lk : ∀ {sl : SL} {d : Nat}, freeO sl d = true → lkS sl (.loc d) = none := by
  intro sl d h
  have := freeO_spec (S := fun _ => none) h
  simp only [ov] at this
  cases e : lkS sl (.loc d) with
  | none => rfl
  | some o => rw [e] at this; cases this

theorem kilV_fr {A B : Store} {fl : FL} {q : Nat} {w : World} {ρ : Nm → Nat} {tm : Array Value} (hs : ∀ t, VS w ρ A (lk' fl t) (tm.getD t undef)) (hBA : ∀ m, m ≠ .loc q → A m ≠ none → B m ≠ none) (t : Nat) :
    lk' (fl.map fun p => (p.1, kilV q p.2)) t = .c .junk ∨ ((lk' (fl.map fun p => (p.1, kilV q p.2)) t).cl B ∧ lk' fl t = lk' (fl.map fun p => (p.1, kilV q p.2)) t ∧ ∀ m, (lk' (fl.map fun p => (p.1, kilV q p.2)) t).at m → m ≠ .loc q ∧ A m ≠ none) := by
  have hv := (hs t).cl
  simp only [lk', lkO_map] at hv ⊢
  cases e : lkO fl t with
  | none => exact .inl rfl
  | some v =>
    rw [e] at hv
    simp only [Option.map_some, Option.getD_some] at hv ⊢
    rcases kilV_cases q v with h | ⟨h1, h2⟩
    · exact .inl h
    · rw [h1]; exact .inr ⟨fun m hm => hBA m (h2 m hm) (hv m hm), rfl, fun m hm => ⟨h2 m hm, hv m hm⟩⟩

/-- A block is forgotten. -/
theorem Weak.dropq {q : Nat} (hn : noL q sl = true) : Weak ⟨lk' fl, ov sl (pushS S)⟩ ⟨lk' (fl.map fun p => (p.1, kilV q p.2)), ov (delL q sl) (pushS S)⟩ := fun w ρ tm hs => by
  have hcl := hs.env.cl
  have hBq : ov (delL q sl) (pushS S) (.loc q) = none := by simp [ov, delL_at, pushS]
  have hB : ∀ m, m ≠ .loc q → ov (delL q sl) (pushS S) m = ov sl (pushS S) m := fun m h2 => by simp [ov, delL_ne q h2]
  refine (Weak.drop (st := ⟨lk' fl, ov sl (pushS S)⟩) (F := ⟨lk' (fl.map fun p => (p.1, kilV q p.2)), ov (delL q sl) (pushS S)⟩) (fun m o hm => ?_) (fun m => hB _ (fun e => by cases e)) (fun t => ?_)) w ρ tm hs
  · have hmq : m ≠ .loc q := fun h => by
      subst h
      have h2 : ov (delL q sl) (pushS S) (.loc q) = some o := hm
      rw [hBq] at h2; cases h2
    have hm2 : ov sl (pushS S) m = some o := by rw [← hB m hmq]; exact hm
    refine ⟨hm2, ?_⟩
    cases o with
    | ints ty k L => trivial
    | acc ty k L => trivial
    | cells ty cs =>
      intro x hx r hr
      have h5 := hcl m _ hm2 x hx r hr
      have hrq : r ≠ .loc q := by
        cases e3 : lkS sl m with
        | some o2 =>
          have : o2 = .cells ty cs := by simp only [ov, e3] at hm2; exact Option.some.inj hm2
          rw [this] at e3
          exact Cell.hasL_f (noL_spec hn m ty cs e3 hmq x hx) hr
        | none =>
          simp only [ov, e3] at hm2
          obtain ⟨a, b, rfl, -, h8⟩ := pushS_some hm2
          cases b with
          | cells ty' cs' =>
            simp only [AObj.map, AObj.cells.injEq] at h8
            obtain ⟨-, rfl⟩ := h8
            obtain ⟨z, hz, rfl⟩ := List.mem_map.1 hx
            obtain ⟨n, hn, rfl⟩ := Cell.map_at hr
            exact fun h => by cases h
          | ints ty' k' L' => cases h8
          | acc ty' k' L' => cases h8
      show ov (delL q sl) (pushS S) r ≠ none
      rw [hB r hrq]; exact h5
  · rcases kilV_fr (A := ov sl (pushS S)) (B := ov (delL q sl) (pushS S)) (q := q) hs.fr (fun m h1 h2 => by rw [hB m h1]; exact h2) t with h | ⟨h1, h2, -⟩
    · exact .inl h
    · exact .inr ⟨h1, h2⟩

/-- A block bears a new name. -/
theorem Weak.renq {d q : Nat} {ob : AObj} (hob : ob.nm0) (hf : freeO sl d = true) (hdq : d ≠ q) (hn : noL q sl = true) (off len cm : Nat) :
    Weak ⟨lk' ((d, .c (.win (.loc q) off len cm)) :: fl), ov ((.loc q, ob) :: sl) (pushS S)⟩ ⟨lk' ((d, .c (.win (.loc d) off len cm)) :: fl.map fun p => (p.1, kilV q p.2)), ov ((.loc d, ob) :: delL q sl) (pushS S)⟩ := fun w ρ tm hs => by
  have hfd := freeO_lk hf
  have hcl := hs.env.cl
  have hA : ∀ m, m ≠ .loc q → ov ((.loc q, ob) :: sl) (pushS S) m = ov sl (pushS S) m := fun m hm => by simp [ov, lkS, hm]
  have hAd : ov ((.loc q, ob) :: sl) (pushS S) (.loc d) = none := by simp [ov, lkS, hdq, hfd, pushS]
  have hAq : ov ((.loc q, ob) :: sl) (pushS S) (.loc q) = some ob := by simp [ov, lkS]
  have hB : ∀ m, m ≠ .loc d → m ≠ .loc q → ov ((.loc d, ob) :: delL q sl) (pushS S) m = ov sl (pushS S) m := fun m h1 h2 => by simp [ov, lkS, h1, delL_ne q h2]
  have hBq : ov ((.loc d, ob) :: delL q sl) (pushS S) (.loc q) = none := by simp [ov, lkS, delL_at, pushS, Ne.symm hdq]
  have hBd : ov ((.loc d, ob) :: delL q sl) (pushS S) (.loc d) = some ob := by simp [ov, lkS]
  obtain ⟨φ, hφ⟩ : ∃ φ : Nm → Nm, φ = fun m => if m = .loc d then .loc q else m := ⟨_, rfl⟩
  have φd : φ (.loc d) = .loc q := by rw [hφ]; simp
  have φn : ∀ m, m ≠ .loc d → φ m = m := fun m hm => by rw [hφ]; simp [hm]
  have hne : ∀ m, m ≠ .loc d → ov ((.loc d, ob) :: delL q sl) (pushS S) m ≠ none → m ≠ .loc q := fun m _ h2 h => by subst h; exact h2 hBq
  have key : ∀ m ty cs, m ≠ .loc d → ov ((.loc d, ob) :: delL q sl) (pushS S) m = some (.cells ty cs) → ∀ x ∈ cs, ∀ r, x.at r → r ≠ .loc q ∧ r ≠ .loc d ∧ ov ((.loc d, ob) :: delL q sl) (pushS S) r ≠ none := by
    intro m ty cs h1 h2 x hx r hr
    have h3 := hne m h1 (by rw [h2]; simp)
    have h6 : ov sl (pushS S) m = some (.cells ty cs) := by rw [← hB m h1 h3]; exact h2
    have h5 : ov ((.loc q, ob) :: sl) (pushS S) r ≠ none := hcl m _ (show ov ((.loc q, ob) :: sl) (pushS S) m = some (.cells ty cs) by rw [hA m h3]; exact h6) x hx r hr
    have hrd : r ≠ .loc d := fun h => by subst h; exact h5 hAd
    have hrq : r ≠ .loc q := by
      cases e3 : lkS sl m with
      | some o2 =>
        have : o2 = .cells ty cs := by simp only [ov, e3] at h6; exact Option.some.inj h6
        rw [this] at e3
        exact Cell.hasL_f (noL_spec hn m ty cs e3 h3 x hx) hr
      | none =>
        simp only [ov, e3] at h6
        obtain ⟨a, b, rfl, -, h8⟩ := pushS_some h6
        cases b with
        | cells ty' cs' =>
          simp only [AObj.map, AObj.cells.injEq] at h8
          obtain ⟨-, rfl⟩ := h8
          obtain ⟨z, hz, rfl⟩ := List.mem_map.1 hx
          obtain ⟨n, hn, rfl⟩ := Cell.map_at hr
          exact fun h => by cases h
        | ints ty' k' L' => cases h8
        | acc ty' k' L' => cases h8
    exact ⟨hrq, hrd, by rw [hB r hrd hrq, ← hA r hrq]; exact h5⟩
  refine (Weak.back (st := ⟨lk' ((d, .c (.win (.loc q) off len cm)) :: fl), ov ((.loc q, ob) :: sl) (pushS S)⟩) (F := ⟨lk' ((d, .c (.win (.loc d) off len cm)) :: fl.map fun p => (p.1, kilV q p.2)), ov ((.loc d, ob) :: delL q sl) (pushS S)⟩) φ
    ⟨fun m m' h1 h2 e => ?_, fun m o hm => ?_, fun m o hm => ?_⟩ (fun m => φn _ (fun e => by cases e)) (fun m h1 h2 => ?_) (fun m => ?_) (fun t => ?_)) w ρ tm hs
  · have h1 : ov ((.loc d, ob) :: delL q sl) (pushS S) m ≠ none := h1
    have h2 : ov ((.loc d, ob) :: delL q sl) (pushS S) m' ≠ none := h2
    by_cases a : m = .loc d <;> by_cases b : m' = .loc d
    · rw [a, b]
    · subst a; rw [φd, φn m' b] at e; exact absurd e.symm (hne m' b h2)
    · subst b; rw [φd, φn m a] at e; exact absurd e (hne m a h1)
    · rw [φn m a, φn m' b] at e; exact e
  · have hm : ov ((.loc d, ob) :: delL q sl) (pushS S) m = some o := hm
    by_cases a : m = .loc d
    · subst a
      rw [hBd] at hm
      obtain rfl := Option.some.inj hm
      rw [φd, AObj.map_nm0 hob]; exact hAq
    · have h3 := hne m a (by rw [hm]; simp)
      rw [φn m a]
      have e1 : o.map φ = o := by
        cases o with
        | ints ty k L => rfl
        | acc ty k L => rfl
        | cells ty cs =>
          simp only [AObj.map]
          congr 1
          conv => rhs; rw [← List.map_id cs]
          refine List.map_congr_left fun x hx => ?_
          rw [show id x = x.map id from (Cell.map_id x).symm]
          exact Cell.map_congr fun r hr => φn r (key m ty cs a hm x hx r hr).2.1
      rw [e1]
      show ov ((.loc q, ob) :: sl) (pushS S) m = some o
      rw [hA m h3, ← hB m a h3]; exact hm
  · have hm : ov ((.loc d, ob) :: delL q sl) (pushS S) m = some o := hm
    by_cases a : m = .loc d
    · subst a
      rw [hBd] at hm
      obtain rfl := Option.some.inj hm
      exact AObj.cl_nm0 hob
    · cases o with
      | ints ty k L => trivial
      | acc ty k L => trivial
      | cells ty cs => exact fun x hx r hr => (key m ty cs a hm x hx r hr).2.2
  · by_cases a : m = .loc d
    · subst a; rw [φd] at h2; cases h2
    · exact φn m a
  · show ov ((.loc d, ob) :: delL q sl) (pushS S) (.out m) = ov ((.loc q, ob) :: sl) (pushS S) (.out m)
    rw [hB _ (fun e => by cases e) (fun e => by cases e), hA _ (fun e => by cases e)]
  · by_cases a : d = t
    · subst a
      refine .inr ⟨fun m hm => ?_, ?_⟩
      · have hm' : AVal.at m (AVal.c (.win (.loc d) off len cm)) := by simpa [lk', lkO, Nat.beq_refl] using hm
        have : (Nm.loc d) = m := hm'
        subst this
        show ov ((.loc d, ob) :: delL q sl) (pushS S) (.loc d) ≠ none
        rw [hBd]; simp
      · simp [lk', lkO, Nat.beq_refl, AVal.map, AVal.map1, Cell.map, φd]
    · have hbeq : Nat.beq d t = false := by
        cases e : Nat.beq d t with
        | false => rfl
        | true => exact absurd (Nat.eq_of_beq_eq_true e) a
      have e1 : ∀ (v : AVal) (r : FL), lk' ((d, v) :: r) t = lk' r t := fun v r => by simp [lk', lkO, hbeq]
      have hs' : ∀ t, d ≠ t → VS w ρ (ov ((.loc q, ob) :: sl) (pushS S)) (lk' fl t) (tm.getD t undef) := fun t ht => by
        have h0 : VS w ρ (ov ((.loc q, ob) :: sl) (pushS S)) (lk' ((d, AVal.c (.win (.loc q) off len cm)) :: fl) t) (tm.getD t undef) := hs.fr t
        have hb : Nat.beq d t = false := by
          cases e : Nat.beq d t with
          | false => rfl
          | true => exact absurd (Nat.eq_of_beq_eq_true e) ht
        rwa [show lk' ((d, AVal.c (.win (.loc q) off len cm)) :: fl) t = lk' fl t by simp [lk', lkO, hb]] at h0
      have hv := (hs' t a).cl
      show lk' ((d, AVal.c (.win (.loc d) off len cm)) :: fl.map fun p => (p.1, kilV q p.2)) t = .c .junk ∨ _
      simp only [e1]
      simp only [lk', lkO_map] at hv ⊢
      cases e : lkO fl t with
      | none => exact .inl rfl
      | some u =>
        rw [e] at hv
        simp only [Option.map_some, Option.getD_some] at hv ⊢
        rcases kilV_cases q u with h | ⟨h1, h2⟩
        · exact .inl h
        · rw [h1]
          have hmd : ∀ m, u.at m → m ≠ .loc d := fun m hm h => by subst h; exact hv _ hm hAd
          refine .inr ⟨fun m hm => ?_, ?_⟩
          · show ov ((.loc d, ob) :: delL q sl) (pushS S) m ≠ none
            rw [hB m (hmd m hm) (h2 m hm), ← hA m (h2 m hm)]; exact hv m hm
          · rw [show u.map φ = u.map id from AVal.map_congr fun m hm => φn m (hmd m hm), AVal.map_id]

theorem kilV_win {d q : Nat} (h : d ≠ q) (off len cm : Nat) : kilV q (.c (.win (.loc d) off len cm)) = .c (.win (.loc d) off len cm) := by
  have : Nat.beq d q = false := by
    cases e : Nat.beq d q with
    | false => rfl
    | true => exact absurd (Nat.eq_of_beq_eq_true e) h
  simp [kilV, Cell.hasL, Nm.isLoc, this]

/-- An append to a list that nobody else holds: in its own room or in a new one. -/
theorem aw_appOwn (hT : TOk P T) {s x : Operand} {tys : Array TypeId} {t e : TypeId} {as : Array Operand} {q : Nat} {k : IntKind} {L Y : List Int} {len cm : Nat} {xv : AVal}
    (h : aw P mu N ops Q l ⟨lk' ((d, .c (.win (.loc d) 0 (len + Y.length) (len + Y.length))) :: fl.map fun p => (p.1, kilV q p.2)), ov ((.loc d, .ints e k (L.take len ++ Y)) :: delL q sl) (pushS S)⟩)
    (hY : srcE (ov sl (pushS S)) xv k Y) (hlen : 0 < cm ∧ len ≤ L.length ∧ 0 < Y.length ∧ len + Y.length ≤ 17592186044416)
    (ha : as.toList = [s, x] := by exact rfl) (ht : tys.toList = [t, t] := by exact rfl) (hu : undT T t = some (.slice e) := by exact rfl) (hc1 : celT T e = 1 := by exact rfl)
    (hz : zerT T e = some (.int k 0) := by exact rfl) (hs : opO fl s = some (.c (.win (.loc q) 0 len cm)) := by exact rfl) (hx : opO fl x = some xv := by exact rfl) (hm : lkS sl (.loc q) = some (.ints e k L) := by exact lks)
    (hf : freeO sl d = true := by exact rfl) (hn : noL q sl = true := by first | exact rfl | simp [noL, Nm.isLoc, addL, delL]) (hb8 : bytT T e = some 8 := by exact rfl) :
    aw P mu N ops Q (⟨some d, .call ⟨.builtin .append, as, tys⟩, ty, pos, after, none⟩ :: l) ⟨lk' fl, ov sl (pushS S)⟩ := by
  intro hb B w ρ a hd hn' hi
  have hfd := freeO_lk hf
  have hdq : d ≠ q := fun h => by subst h; rw [hfd] at hm; cases hm
  have hu := hT.und hu
  have hc1 := hT.cel hc1 (by simp)
  have hz := hT.zer hz
  have hb8 := hT.byt hb8
  refine wpList_step fun K hK => ?_
  simp only [Region.wanted, if_true]
  have ea : as = #[s, x] := by rw [← Array.toList_inj]; simpa using ha
  have et : tys = #[t, t] := by rw [← Array.toList_inj]; simpa using ht
  have hvs := hi.sim.look s
  rw [opO_look hs] at hvs
  have hvx := hi.sim.look x
  rw [opO_look hx] at hvx
  have hexec : ∀ {u w'}, (Builtin.append_ #[t, t] ty #[a.eval s, a.eval x]).run P w = .ok u w' → (execOp a.eval ⟨some d, .call ⟨.builtin .append, as, tys⟩, ty, pos, after, none⟩).run P w = .ok (.value u) w' := by
    intro u w' hrun
    simp [execOp, resolve, ea, et, invoke, builtin, hrun]
  have hdl : ∀ t, some d = some t → t < a.tmps.size := fun t ht => by rw [hn']; exact hb _ List.mem_cons_self t ht
  have hS : ov sl (pushS S) (.loc q) = some (.ints e k L) := ov_of hm
  obtain ⟨-, A, cap, ev, q1, q2, q3⟩ := hvs
  rcases srcE_held hi.sim.env hvx hY with ⟨rfl, -⟩ | ⟨hYne, b, off, c, ex, hcell⟩
  · simp at hlen
  obtain ⟨rfl, ty2, sz, ⟨cur2, g1, g2⟩, g3⟩ := q3 (by omega)
  obtain ⟨cur, f1, f2⟩ := hi.sim.env.obj (.loc q) _ hS
  rw [f1] at g1
  injection g1 with g1
  injection g1 with g1 g4
  subst g1 g4
  cases ei : P.info? e with
  | none => simp [zeroOf, ei] at hz
  | some i =>
    have hz' : i.zero = some (.int k 0) := by simpa [zeroOf, ei] using hz
    have hsz : i.size = 1 := by simpa [Program.cellsOf, ei] using hc1
    have hby : i.bytes = 8 := by rw [← hb8]; simp [Program.bytesOf, ei]
    have hsrc : ∀ j u, (Y.map (Value.int k))[j]? = some u → w.cell? ((⟨b, off, none⟩ : Addr).add j) = some u := fun j u hj => by rw [add_pl]; exact hcell j u hj
    have hold : ∀ j y, j < len → L[j]? = some y → cur[j]? = some (Value.int k y) := fun j y _ hj => f2 j y hj
    have hcur : len ≤ cur.size := by omega
    unfold Oper.wp
    by_cases hroom : len + Y.length ≤ cap
    · have hrun := run_append_room (P := P) w t ty e i hu ei (ρ (.loc q)) len cap cur f1 ⟨b, off, none⟩ Y.length c (Y.map (Value.int k)) (by simp [hsz]) hsrc
        (fun u hu => by simp at hu; obtain ⟨y, -, rfl⟩ := hu; rfl) hroom (by simp [hsz]; omega)
      rw [hexec (by rw [ev, ex]; exact hrun)]
      have hput := Put.of_setRow f1 (cur.toList.take (len * i.size) ++ Y.map (Value.int k) ++ cur.toList.drop (len * i.size + (Y.map (Value.int k)).length)).toArray
      have hsize : (cur.toList.take (len * i.size) ++ Y.map (Value.int k) ++ cur.toList.drop (len * i.size + (Y.map (Value.int k)).length)).toArray.size = cur.size := by
        simp [hsz]; omega
      have hext := hput.ext (o' := .ints e k (L.take len ++ Y)) hS rfl rfl f1 hsize
      have henv := hput.env (o' := .ints e k (L.take len ++ Y)) hi.sim.env hS rfl rfl f1 hsize ⟨_, hput.at_, fun j y hj => by
        simp only [hsz, Nat.mul_one, List.length_map, List.getElem?_toArray]
        rw [List.append_assoc]
        rcases Nat.lt_or_ge j len with h | h
        · rw [List.getElem?_append_left (by simp; omega), List.getElem?_take_of_lt h] at hj
          rw [List.getElem?_append_left (by simp; omega), List.getElem?_take_of_lt h]
          simpa using f2 j y hj
        · rw [List.getElem?_append_right (by simp; omega), List.length_take, Nat.min_eq_left (by omega)] at hj
          rw [List.getElem?_append_right (by simp; omega), List.length_take, Nat.min_eq_left (by simp; omega)]
          have h' : j - len < Y.length := by
            rcases Nat.lt_or_ge (j - len) Y.length with g | g
            · exact g
            · rw [List.getElem?_eq_none g] at hj; cases hj
          rw [List.getElem?_append_left (by simpa using h'), List.getElem?_map, hj]; rfl⟩
      have hval : VS _ ρ (upd (ov sl (pushS S)) (.loc q) (.ints e k (L.take len ++ Y))) (.c (.win (.loc q) 0 (len + Y.length) (len + Y.length))) (.slice (some ⟨ρ (.loc q), 0, none⟩) (len + Y.length) cap) :=
        ⟨⟨_, upd_same _ _ _, rfl⟩, _, cap, rfl, Nat.le_refl _, hroom, fun _ => ⟨rfl, e, _, ⟨_, hput.at_, hsize⟩, by omega⟩⟩
      have hs1 := hi.sim.put (d := some d) henv hext (lk' fl) (fun t => .inr ⟨rfl, fun _ hX => hX.elim⟩) hdl hval
      rw [putF_lk, upd_ov] at hs1
      rw [upd_ov] at hext
      have hi1 := hi.step hs1 hext (fun _ h => h.elim)
      exact hK _ _ (aw_weak _ (Weak.renq (ob := .ints e k (L.take len ++ Y)) trivial hf hdq hn 0 (len + Y.length) (len + Y.length)) h (fun o ho => hb o (by simp [ho])) B _ ρ _ (by rw [put_defers]; exact hd) (by rw [put_size]; exact hn') hi1)
    · have hgrow : Builtin.nextslicecap (len + Y.length) cap * i.bytes ≤ 281474976710656 := growslice_fits (by omega) (by rw [hby]; omega)
      have hlL : (L.take len).length = len := by simp; omega
      have hrun := run_append_grow (P := P) w t ty e i (.int k 0) hu ei hz' ⟨ρ (.loc q), 0, none⟩ len cap ((L.take len).map (Value.int k)) (by simp [hsz]; omega)
        (fun j v hj => by
          rw [add_pl, Nat.zero_add, cell_of_heap f1]
          rw [List.getElem?_map, Option.map_eq_some_iff] at hj
          obtain ⟨y, hy, rfl⟩ := hj
          have hjl : j < len := by
            rcases Nat.lt_or_ge j len with g | g
            · exact g
            · rw [List.getElem?_eq_none (by omega)] at hy; cases hy
          rw [List.getElem?_take_of_lt hjl] at hy
          exact f2 j y hy) ⟨b, off, none⟩ Y.length c (Y.map (Value.int k)) (by simp [hsz]) hsrc (by omega) (by omega) hgrow
      rw [hexec (by rw [ev, ex]; exact hrun)]
      have hcap := grownCap_ge w (len + Y.length) cap e
      obtain ⟨G, hG⟩ : ∃ G, G = grownCap w (len + Y.length) cap e := ⟨_, rfl⟩
      rw [← hG] at hcap ⊢
      obtain ⟨vs, hvs⟩ : ∃ vs, vs = ((L.take len).map (Value.int k)).toArray ++ (Y.map (Value.int k)).toArray ++ Builtin.zeroCells (Value.int k 0).cells (G - (len + Y.length)) := ⟨_, rfl⟩
      rw [← hvs]
      have hvsz : vs.size = G := by
        have e1 : (Value.int k 0).cells.size = 1 := rfl
        rw [hvs]; simp [size_zeroCells, e1]; omega
      have hnew : New w (w.drew.alloc (.cells vs e)) (.loc d) (.cells vs e) := ⟨rfl, rfl, rfl, by simp, fun b h => heap_alloc_old w.drew _ h, heap_alloc_at w.drew _⟩
      have hSd : ov sl (pushS S) (.loc d) = none := freeO_spec hf
      have hrow : RowS (w.drew.alloc (.cells vs e)) w.heap.size e k (L.take len ++ Y) := ⟨vs, hnew.new, fun j y hj => by
        rw [hvs, Array.getElem?_append_left (by
          have : j < (L.take len ++ Y).length := by
            rcases Nat.lt_or_ge j (L.take len ++ Y).length with g | g
            · exact g
            · rw [List.getElem?_eq_none g] at hj; cases hj
          simp at this ⊢; omega)]
        rw [List.append_toArray, ← List.map_append, List.getElem?_toArray, List.getElem?_map, hj]; rfl⟩
      have hext := hnew.ext hi.sim.env hSd (.ints e k (L.take len ++ Y))
      have henv := hnew.env hi.sim.env hSd (ob := .ints e k (L.take len ++ Y)) hrow
      have hval : VS (w.drew.alloc (.cells vs e)) (setN ρ (.loc d) w.heap.size) (upd (ov sl (pushS S)) (.loc d) (.ints e k (L.take len ++ Y))) (.c (.win (.loc d) 0 (len + Y.length) (len + Y.length))) (.slice (some ⟨w.heap.size, 0, none⟩) (len + Y.length) G) :=
        ⟨⟨_, upd_same _ _ _, rfl⟩, _, G, rfl, Nat.le_refl _, hcap, fun _ => ⟨by simp [setN], e, _, ⟨vs, by simp only [setN, if_true]; exact hnew.new, rfl⟩, by omega⟩⟩
      have hs1 := hi.sim.put (d := some d) henv hext (lk' fl) (fun t => .inr ⟨rfl, fun _ hX => hX.elim⟩) hdl hval
      rw [putF_lk, upd_ov] at hs1
      rw [upd_ov] at hext
      have hi1 := hi.step hs1 hext (fun _ h => h.elim)
      have hn2 : noL q ((.loc d, .ints e k (L.take len ++ Y)) :: sl) = true := by simpa [noL] using hn
      have hw := Weak.dropq (fl := (d, .c (.win (.loc d) 0 (len + Y.length) (len + Y.length))) :: fl) (S := S) hn2
      have e1 : delL q ((Nm.loc d, AObj.ints e k (L.take len ++ Y)) :: sl) = (.loc d, .ints e k (L.take len ++ Y)) :: delL q sl := by
        have : Nat.beq d q = false := by
          cases e : Nat.beq d q with
          | false => rfl
          | true => exact absurd (Nat.eq_of_beq_eq_true e) hdq
        simp [delL, Nm.isLoc, this]
      rw [e1, List.map_cons, kilV_win hdq] at hw
      exact hK _ _ (aw_weak _ hw h (fun o ho => hb o (by simp [ho])) B _ _ _ (by rw [put_defers]; exact hd) (by rw [put_size]; exact hn') hi1)
end
end Go.Abs

/-
  Steps told in natural numbers.
-/
namespace Go.Abs
open Go

theorem nats_get (l : List Nat) (j : Nat) : (l.map fun n : Nat => Int.ofNat n).getD j 0 = ((l.getD j 0 : Nat) : Int) := by
  rw [List.getD_eq_getElem?_getD, List.getD_eq_getElem?_getD, List.getElem?_map]
  cases l[j]? <;> rfl

section
variable {A B : Store}
theorem lW {m : Nm} {off len cm : Nat} {ty : TypeId} {k : IntKind} {L L' : List Int} (hm : A m = some (.ints ty k L)) (hb : B m = none) (hl : off + len ≤ L.length) (e : (L.drop off).take len = L') : FrzC0 A B (.win m off len cm) (.ints k L') := .win hm hb hl e.symm
theorem kP2 {m : Nm} {off : Nat} {ty : TypeId} {cs r : List Cell} {x1 x2 : Cell} {l1 l2 : Leaf} (hm : A m = some (.cells ty cs)) (hb : B m = none) (hd : cs.drop off = x1 :: x2 :: r) (h1 : FrzC0 A B x1 l1.cell) (h2 : FrzC0 A B x2 l2.cell) :
    FrzV A B (.c (.ptr m off)) (.c (.pim [l1, l2])) := kP hm hb (by rw [hd]; exact ⟨h1, h2, by cases r <;> exact True.intro⟩)
theorem kP3 {m : Nm} {off : Nat} {ty : TypeId} {cs r : List Cell} {x1 x2 x3 : Cell} {l1 l2 l3 : Leaf} (hm : A m = some (.cells ty cs)) (hb : B m = none) (hd : cs.drop off = x1 :: x2 :: x3 :: r) (h1 : FrzC0 A B x1 l1.cell) (h2 : FrzC0 A B x2 l2.cell) (h3 : FrzC0 A B x3 l3.cell) :
    FrzV A B (.c (.ptr m off)) (.c (.pim [l1, l2, l3])) := kP hm hb (by rw [hd]; exact ⟨h1, h2, h3, by cases r <;> exact True.intro⟩)
end

section
variable {P : Program} {T : TT} {mu : FuncId → Bool} {N : Nat} {ops : Array Oper} {fl : FL} {sl : SL} {S S' : Store} {K : St → Prop}
  {d : Nat} {ty : TypeId} {pos : String} {after : Array Edge}

theorem zn1 {t e : TypeId} {x i : Operand} {k ki : IntKind} {l : List Nat} {j : Nat} (hT : TOk P T) (kk : K ⟨lk' ((d, .c (.pim [.sc (.int k ((l.getD j 0 : Nat) : Int))])) :: fl), S'⟩)
    (ht : undT T t = some (.slice e) := by exact rfl) (hc : celT T e = 1 := by exact rfl) (hx : opO fl x = some (.c (.ints k (l.map fun n : Nat => Int.ofNat n))) := by exact rfl) (hi : opO fl i = some (ivl ki (j : Int)) := by exact rfl) (h : j < l.length := by first | exact True.intro | omega | (simp only [and_true, List.length_map, List.length_replicate, List.length_set, List.length_append, List.length_cons, List.length_nil, List.length_take, List.length_drop] at *; omega)) :
    Stp P mu ops ⟨some d, .indexAddr t x i, ty, pos, after, none⟩ ⟨lk' fl, S'⟩ K := by
  refine stp_pure hT true (v := .c (.pim [.sc (.int k ((l.map fun n : Nat => Int.ofNat n).getD (j : Int).toNat 0))])) (C := 0 ≤ (j : Int) ∧ (j : Int) < (l.map fun n : Nat => Int.ofNat n).length) (by simp only [evP, ht, hc, hx, hi]) ⟨by omega, by rw [List.length_map]; omega⟩ ?_
  rw [nats_get]; exact kk
theorem zn2 {t e : TypeId} {x i : Operand} {k ki : IntKind} {l : List Nat} {j : Int} (hT : TOk P T) (kk : K ⟨lk' ((d, .c (.pim [.sc (.int k ((l.getD j.toNat 0 : Nat) : Int))])) :: fl), S'⟩)
    (ht : undT T t = some (.slice e) := by exact rfl) (hc : celT T e = 1 := by exact rfl) (hx : opO fl x = some (.c (.ints k (l.map fun n : Nat => Int.ofNat n))) := by exact rfl) (hi : opO fl i = some (ivl ki j) := by exact rfl) (h : 0 ≤ j ∧ j < l.length := by first | exact True.intro | omega | (simp only [and_true, List.length_map, List.length_replicate, List.length_set, List.length_append, List.length_cons, List.length_nil, List.length_take, List.length_drop] at *; omega)) :
    Stp P mu ops ⟨some d, .indexAddr t x i, ty, pos, after, none⟩ ⟨lk' fl, S'⟩ K := by
  refine stp_pure hT true (v := .c (.pim [.sc (.int k ((l.map fun n : Nat => Int.ofNat n).getD j.toNat 0))])) (C := 0 ≤ j ∧ j < (l.map fun n : Nat => Int.ofNat n).length) (by simp only [evP, ht, hc, hx, hi]) ⟨h.1, by rw [List.length_map]; omega⟩ ?_
  rw [nats_get]; exact kk
theorem zn3 {t e : TypeId} {x i : Operand} {ki : IntKind} {m : Nm} {len cm : Nat} {j : Nat} (hT : TOk P T) (kk : K ⟨lk' ((d, .c (.ptr m j)) :: fl), S'⟩)
    (ht : undT T t = some (.slice e) := by exact rfl) (hc : celT T e = 1 := by exact rfl) (hx : opO fl x = some (.c (.win m 0 len cm)) := by exact rfl) (hi : opO fl i = some (ivl ki (j : Int)) := by exact rfl) (h : j < len := by first | exact True.intro | omega | (simp only [and_true, List.length_map, List.length_replicate, List.length_set, List.length_append, List.length_cons, List.length_nil, List.length_take, List.length_drop] at *; omega)) :
    Stp P mu ops ⟨some d, .indexAddr t x i, ty, pos, after, none⟩ ⟨lk' fl, S'⟩ K := by
  refine stp_pure hT true (v := .c (.ptr m (0 + (j : Int).toNat))) (C := 0 ≤ (j : Int) ∧ (j : Int) < len) (by simp only [evP, ht, hc, hx, hi]) ⟨by omega, by omega⟩ ?_
  rw [Nat.zero_add]; exact kk
theorem zn4 {t ty' : TypeId} {x : Operand} {k : IntKind} {m : Nm} {off : Nat} {l : List Nat} (hT : TOk P T) (kk : K ⟨lk' ((d, ivl k ((l.getD off 0 : Nat) : Int)) :: fl), ov sl S⟩)
    (hx : opO fl x = some (.c (.ptr m off)) := by exact rfl) (ha : agT T t = some false := by exact rfl) (hm : lkS sl m = some (.ints ty' k (l.map fun n : Nat => Int.ofNat n)) := by exact lks) (h : off < l.length := by first | exact True.intro | omega | (simp only [and_true, List.length_map, List.length_replicate, List.length_set, List.length_append, List.length_cons, List.length_nil, List.length_take, List.length_drop] at *; omega)) :
    Stp P mu ops ⟨some d, .load t x, ty, pos, after, none⟩ ⟨lk' fl, ov sl S⟩ K := by
  refine stp_load hT hx ha hm (y := .sc (.int k ((l.map fun n : Nat => Int.ofNat n).getD off 0))) (C := off < (l.map fun n : Nat => Int.ofNat n).length) rfl (by rw [List.length_map]; exact h) ?_
  rw [nats_get]; exact kk
theorem zn5 {t ty' : TypeId} {x y : Operand} {k : IntKind} {m : Nm} {off v : Nat} {l : List Nat} (hT : TOk P T) (kk : K ⟨lk' fl, ov ((m, .ints ty' k ((l.set off v).map fun n : Nat => Int.ofNat n)) :: sl) S⟩)
    (hx : opO fl x = some (.c (.ptr m off)) := by exact rfl) (hy : opO fl y = some (ivl k (v : Int)) := by exact rfl) (hc : celT T t = 1 := by exact rfl) (hm : lkS sl m = some (.ints ty' k (l.map fun n : Nat => Int.ofNat n)) := by exact lks) (h : off < l.length := by first | exact True.intro | omega | (simp only [and_true, List.length_map, List.length_replicate, List.length_set, List.length_append, List.length_cons, List.length_nil, List.length_take, List.length_drop] at *; omega)) :
    Stp P mu ops ⟨none, .store t x y, ty, pos, after, none⟩ ⟨lk' fl, ov sl S⟩ K := by
  refine stp_store hT hx hy hm (o' := .ints ty' k ((l.map fun n : Nat => Int.ofNat n).set off (v : Int))) (C := off < (l.map fun n : Nat => Int.ofNat n).length) ?_ (by rw [List.length_map]; exact h) ?_
  · cases k <;> simp [putO, hc, kEq]
  · rw [show (v : Int) = Int.ofNat v from rfl, ← List.map_set]; exact kk
theorem zn6 {t0 t1 : TypeId} {x y : Operand} {m n : Nat} (hT : TOk P T) (kk : K ⟨lk' ((d, ivl .u64 ((m + n : Nat) : Int)) :: fl), S'⟩) (hx : opO fl x = some (ivl .u64 (m : Int)) := by exact rfl) (hy : opO fl y = some (ivl .u64 (n : Int)) := by exact rfl) (h : m + n < 18446744073709551616 := by first | exact True.intro | omega | (simp only [and_true, List.length_map, List.length_replicate, List.length_set, List.length_append, List.length_cons, List.length_nil, List.length_take, List.length_drop] at *; omega)) :
    Stp P mu ops ⟨some d, .binOp .add t0 x y t1, ty, pos, after, none⟩ ⟨lk' fl, S'⟩ K := by
  refine stp_pure hT true (v := ivl .u64 ((m : Int) + n)) (C := (0 ≤ (m : Int) + n ∧ (m : Int) + n < 18446744073709551616) ∧ True) (by simp only [evP, hx, hy]; rfl) ⟨⟨by omega, by omega⟩, trivial⟩ ?_
  rw [← Int.natCast_add]; exact kk
theorem zn7 {t0 t1 : TypeId} {x y : Operand} {m n : Nat} (hT : TOk P T) (kk : K ⟨lk' ((d, ivl .u64 ((m - n : Nat) : Int)) :: fl), S'⟩) (hx : opO fl x = some (ivl .u64 (m : Int)) := by exact rfl) (hy : opO fl y = some (ivl .u64 (n : Int)) := by exact rfl) (h : n ≤ m ∧ m < 18446744073709551616 := by first | exact True.intro | omega | (simp only [and_true, List.length_map, List.length_replicate, List.length_set, List.length_append, List.length_cons, List.length_nil, List.length_take, List.length_drop] at *; omega)) :
    Stp P mu ops ⟨some d, .binOp .sub t0 x y t1, ty, pos, after, none⟩ ⟨lk' fl, S'⟩ K := by
  refine stp_pure hT true (v := ivl .u64 ((m : Int) - n)) (C := (0 ≤ (m : Int) - n ∧ (m : Int) - n < 18446744073709551616) ∧ True) (by simp only [evP, hx, hy]; rfl) ⟨⟨by omega, by omega⟩, trivial⟩ ?_
  rw [← Int.natCast_sub h.1]; exact kk
theorem zn8 {t0 t1 : TypeId} {x y : Operand} {m n : Nat} (hT : TOk P T) (kk : K ⟨lk' ((d, ivl .i64 ((m + n : Nat) : Int)) :: fl), S'⟩) (hx : opO fl x = some (ivl .i64 (m : Int)) := by exact rfl) (hy : opO fl y = some (ivl .i64 (n : Int)) := by exact rfl) (h : m + n < 9223372036854775808 := by first | exact True.intro | omega | (simp only [and_true, List.length_map, List.length_replicate, List.length_set, List.length_append, List.length_cons, List.length_nil, List.length_take, List.length_drop] at *; omega)) :
    Stp P mu ops ⟨some d, .binOp .add t0 x y t1, ty, pos, after, none⟩ ⟨lk' fl, S'⟩ K := by
  refine stp_pure hT true (v := ivl .i64 ((m : Int) + n)) (C := (-9223372036854775808 ≤ (m : Int) + n ∧ (m : Int) + n < 9223372036854775808) ∧ True) (by simp only [evP, hx, hy]; rfl) ⟨⟨by omega, by omega⟩, trivial⟩ ?_
  rw [← Int.natCast_add]; exact kk
theorem zn9 {t0 t1 : TypeId} {x y : Operand} {m n : Nat} (hT : TOk P T) (kk : K ⟨lk' ((d, ivl .u64 ((m * n : Nat) : Int)) :: fl), S'⟩) (hx : opO fl x = some (ivl .u64 (m : Int)) := by exact rfl) (hy : opO fl y = some (ivl .u64 (n : Int)) := by exact rfl) (h : m * n < 18446744073709551616 := by first | exact True.intro | omega | (simp only [and_true, List.length_map, List.length_replicate, List.length_set, List.length_append, List.length_cons, List.length_nil, List.length_take, List.length_drop] at *; omega)) :
    Stp P mu ops ⟨some d, .binOp .mul t0 x y t1, ty, pos, after, none⟩ ⟨lk' fl, S'⟩ K := by
  refine stp_mulN m n hx hy rfl rfl h kk
theorem zn10 {t0 t1 : TypeId} {x y : Operand} {m n : Nat} (hT : TOk P T) (kk : K ⟨lk' ((d, ivl .i64 ((m / n : Nat) : Int)) :: fl), S'⟩) (hx : opO fl x = some (ivl .i64 (m : Int)) := by exact rfl) (hy : opO fl y = some (ivl .i64 (n : Int)) := by exact rfl) (h : m < 9223372036854775808 ∧ n ≠ 0 := by first | exact True.intro | omega | (simp only [and_true, List.length_map, List.length_replicate, List.length_set, List.length_append, List.length_cons, List.length_nil, List.length_take, List.length_drop] at *; omega)) :
    Stp P mu ops ⟨some d, .binOp .quo t0 x y t1, ty, pos, after, none⟩ ⟨lk' fl, S'⟩ K := by
  refine stp_of hx hy ?_ kk
  simp only [binE, isShift]
  have hle := Nat.div_le_self m n
  refine ⟨trivial, show (n : Int) ≠ 0 ∧ _ = ivl .i64 (IntKind.i64.wrap ((m : Int).tdiv n)) from ⟨by omega, ?_⟩⟩
  rw [Int.tdiv_eq_ediv_of_nonneg (Int.natCast_nonneg _), ← Int.natCast_ediv]
  have e : IntKind.i64.wrap ((m / n : Nat) : Int) = ((m / n : Nat) : Int) := by rw [IntKind.wrap_i64]; generalize m / n = q at *; omega
  rw [e]
theorem zn11 {t0 t1 : TypeId} {x y : Operand} {m n : Nat} (hT : TOk P T) (kk : K ⟨lk' ((d, ivl .i64 ((m % n : Nat) : Int)) :: fl), S'⟩) (hx : opO fl x = some (ivl .i64 (m : Int)) := by exact rfl) (hy : opO fl y = some (ivl .i64 (n : Int)) := by exact rfl) (h : n ≠ 0 := by first | exact True.intro | omega | (simp only [and_true, List.length_map, List.length_replicate, List.length_set, List.length_append, List.length_cons, List.length_nil, List.length_take, List.length_drop] at *; omega)) :
    Stp P mu ops ⟨some d, .binOp .rem t0 x y t1, ty, pos, after, none⟩ ⟨lk' fl, S'⟩ K := by
  refine stp_of hx hy ?_ kk
  simp only [binE, isShift]
  refine ⟨trivial, show (n : Int) ≠ 0 ∧ _ = ivl .i64 ((m : Int).tmod n) from ⟨by omega, ?_⟩⟩
  rw [Int.tmod_eq_emod_of_nonneg (Int.natCast_nonneg _), ← Int.natCast_emod]
theorem zn12 {t e : TypeId} {x : Operand} {as : Array Operand} {tys : Array TypeId} {k : IntKind} {l : List Nat} (hT : TOk P T) (kk : K ⟨lk' ((d, ivl .i64 (l.length : Int)) :: fl), S'⟩)
    (ha : as.toList = [x] := by exact rfl) (hb : tys.toList = [t] := by exact rfl) (ht : undT T t = some (.slice e) := by exact rfl) (hx : opO fl x = some (.c (.ints k (l.map fun n : Nat => Int.ofNat n))) := by exact rfl) :
    Stp P mu ops ⟨some d, .call ⟨.builtin .len, as, tys⟩, ty, pos, after, none⟩ ⟨lk' fl, S'⟩ K := by
  refine stp_pure hT true (v := ivl .i64 ((l.map fun n : Nat => Int.ofNat n).length : Int)) (C := True) (by simp only [evP, ha, hb, ht, hx, lenF]) trivial ?_
  rw [List.length_map]; exact kk
theorem s_makeA8 {t e : TypeId} {l c : Operand} {b : Nat} {ka kb k : IntKind} (hT : TOk P T) (kk : K ⟨lk' ((d, .accv (.loc d)) :: fl), ov ((.loc d, .acc e k (List.replicate b 0)) :: sl) (pushS S)⟩) (hb : b ≤ 35184372088832)
    (ht : undT T t = some (.slice e) := by exact rfl) (hc1 : celT T e = 1 := by exact rfl) (hb8 : bytT T e = some 8 := by exact rfl) (hz : zerF T e = some [.sc (.int k 0)] := by exact rfl)
    (hl : opO fl l = some (ivl ka (b : Int)) := by exact rfl) (hc : opO fl c = some (ivl kb (b : Int)) := by exact rfl) (hf : freeO sl d = true := by exact rfl) :
    Stp P mu ops ⟨some d, .makeSlice t l c, ty, pos, after, none⟩ ⟨lk' fl, ov sl (pushS S)⟩ K := s_makeA (a := (b : Int)) (b := (b : Int)) hT rfl ⟨by omega, by omega, by omega⟩ (by rw [Int.toNat_natCast]; exact kk) ht hc1 hb8 hz hl hc hf

/-- Whatever is ready first. -/
theorem any0 {Q : St → Prop} {fuel : Nat} {listed : Array Bool} {st : St} (hr : Region.ready .any ops listed = []) (h : Q st) : aAny P mu ops Q fuel listed st := by
  cases fuel with
  | zero => exact ⟨hr, h⟩
  | succ n => exact ⟨fun _ => h, fun i hi => by rw [hr] at hi; cases hi⟩
theorem any1 {Q : St → Prop} {fuel i : Nat} {listed : Array Bool} {st : St} {oi : Oper} (hr : Region.ready .any ops listed = [i]) (hi : ops[i]? = some oi) (h : Stp P mu ops oi st (aAny P mu ops Q fuel (listed.setIfInBounds i true))) : aAny P mu ops Q (fuel + 1) listed st :=
  ⟨fun q => (by rw [hr] at q; cases q), fun j hj o ho => by
    rw [hr] at hj; simp only [List.mem_singleton] at hj; subst hj
    rw [hi] at ho; obtain rfl := Option.some.inj ho; exact h⟩
theorem any2 {Q : St → Prop} {fuel i j : Nat} {listed : Array Bool} {st : St} {oi oj : Oper} (hr : Region.ready .any ops listed = [i, j]) (hi : ops[i]? = some oi) (hj : ops[j]? = some oj)
    (h1 : Stp P mu ops oi st (aAny P mu ops Q fuel (listed.setIfInBounds i true))) (h2 : Stp P mu ops oj st (aAny P mu ops Q fuel (listed.setIfInBounds j true))) : aAny P mu ops Q (fuel + 1) listed st :=
  ⟨fun q => (by rw [hr] at q; cases q), fun k hk o ho => by
    rw [hr] at hk; simp only [List.mem_cons, List.not_mem_nil, or_false] at hk
    rcases hk with rfl | rfl
    · rw [hi] at ho; obtain rfl := Option.some.inj ho; exact h1
    · rw [hj] at ho; obtain rfl := Option.some.inj ho; exact h2⟩

/-- With a number of the text. -/
theorem zc1 {t0 t1 : TypeId} {x : Operand} {m n : Nat} (hT : TOk P T) (kk : K ⟨lk' ((d, ivl .u64 ((m + (@OfNat.ofNat Nat n (instOfNatNat n)) : Nat) : Int)) :: fl), S'⟩) (hx : opO fl x = some (ivl .u64 (m : Int)) := by exact rfl) (h : m + (@OfNat.ofNat Nat n (instOfNatNat n)) < 18446744073709551616 := by first | exact True.intro | omega | (simp only [and_true, List.length_map, List.length_replicate, List.length_set, List.length_append, List.length_cons, List.length_nil, List.length_take, List.length_drop] at *; omega)) :
    Stp P mu ops ⟨some d, .binOp .add t0 x (.const (.int .u64 (@OfNat.ofNat Int n instOfNat))) t1, ty, pos, after, none⟩ ⟨lk' fl, S'⟩ K := zn6 (m := m) (n := (@OfNat.ofNat Nat n (instOfNatNat n))) hT kk hx rfl h
theorem zc2 {t0 t1 : TypeId} {y : Operand} {m n : Nat} (hT : TOk P T) (kk : K ⟨lk' ((d, ivl .u64 (((@OfNat.ofNat Nat m (instOfNatNat m)) + n : Nat) : Int)) :: fl), S'⟩) (hy : opO fl y = some (ivl .u64 (n : Int)) := by exact rfl) (h : (@OfNat.ofNat Nat m (instOfNatNat m)) + n < 18446744073709551616 := by first | exact True.intro | omega | (simp only [and_true, List.length_map, List.length_replicate, List.length_set, List.length_append, List.length_cons, List.length_nil, List.length_take, List.length_drop] at *; omega)) :
    Stp P mu ops ⟨some d, .binOp .add t0 (.const (.int .u64 (@OfNat.ofNat Int m instOfNat))) y t1, ty, pos, after, none⟩ ⟨lk' fl, S'⟩ K := zn6 (m := (@OfNat.ofNat Nat m (instOfNatNat m))) (n := n) hT kk rfl hy h
theorem zc3 {t0 t1 : TypeId} {x : Operand} {m n : Nat} (hT : TOk P T) (kk : K ⟨lk' ((d, ivl .i64 ((m + (@OfNat.ofNat Nat n (instOfNatNat n)) : Nat) : Int)) :: fl), S'⟩) (hx : opO fl x = some (ivl .i64 (m : Int)) := by exact rfl) (h : m + (@OfNat.ofNat Nat n (instOfNatNat n)) < 9223372036854775808 := by first | exact True.intro | omega | (simp only [and_true, List.length_map, List.length_replicate, List.length_set, List.length_append, List.length_cons, List.length_nil, List.length_take, List.length_drop] at *; omega)) :
    Stp P mu ops ⟨some d, .binOp .add t0 x (.const (.int .i64 (@OfNat.ofNat Int n instOfNat))) t1, ty, pos, after, none⟩ ⟨lk' fl, S'⟩ K := zn8 (m := m) (n := (@OfNat.ofNat Nat n (instOfNatNat n))) hT kk hx rfl h
theorem zc4 {t0 t1 : TypeId} {y : Operand} {m n : Nat} (hT : TOk P T) (kk : K ⟨lk' ((d, ivl .u64 (((@OfNat.ofNat Nat m (instOfNatNat m)) - n : Nat) : Int)) :: fl), S'⟩) (hy : opO fl y = some (ivl .u64 (n : Int)) := by exact rfl) (h : n ≤ (@OfNat.ofNat Nat m (instOfNatNat m)) ∧ (@OfNat.ofNat Nat m (instOfNatNat m)) < 18446744073709551616 := by first | exact True.intro | omega | (simp only [and_true, List.length_map, List.length_replicate, List.length_set, List.length_append, List.length_cons, List.length_nil, List.length_take, List.length_drop] at *; omega)) :
    Stp P mu ops ⟨some d, .binOp .sub t0 (.const (.int .u64 (@OfNat.ofNat Int m instOfNat))) y t1, ty, pos, after, none⟩ ⟨lk' fl, S'⟩ K := zn7 (m := (@OfNat.ofNat Nat m (instOfNatNat m))) (n := n) hT kk rfl hy h
theorem zc5 {t0 t1 : TypeId} {x : Operand} {m n : Nat} (hT : TOk P T) (kk : K ⟨lk' ((d, ivl .u64 ((m - (@OfNat.ofNat Nat n (instOfNatNat n)) : Nat) : Int)) :: fl), S'⟩) (hx : opO fl x = some (ivl .u64 (m : Int)) := by exact rfl) (h : (@OfNat.ofNat Nat n (instOfNatNat n)) ≤ m ∧ m < 18446744073709551616 := by first | exact True.intro | omega | (simp only [and_true, List.length_map, List.length_replicate, List.length_set, List.length_append, List.length_cons, List.length_nil, List.length_take, List.length_drop] at *; omega)) :
    Stp P mu ops ⟨some d, .binOp .sub t0 x (.const (.int .u64 (@OfNat.ofNat Int n instOfNat))) t1, ty, pos, after, none⟩ ⟨lk' fl, S'⟩ K := zn7 (m := m) (n := (@OfNat.ofNat Nat n (instOfNatNat n))) hT kk hx rfl h
theorem zc6 {t0 t1 : TypeId} {y : Operand} {m n : Nat} (hT : TOk P T) (kk : K ⟨lk' ((d, ivl .u64 (((@OfNat.ofNat Nat m (instOfNatNat m)) * n : Nat) : Int)) :: fl), S'⟩) (hy : opO fl y = some (ivl .u64 (n : Int)) := by exact rfl) (h : (@OfNat.ofNat Nat m (instOfNatNat m)) * n < 18446744073709551616 := by first | exact True.intro | omega | (simp only [and_true, List.length_map, List.length_replicate, List.length_set, List.length_append, List.length_cons, List.length_nil, List.length_take, List.length_drop] at *; omega)) :
    Stp P mu ops ⟨some d, .binOp .mul t0 (.const (.int .u64 (@OfNat.ofNat Int m instOfNat))) y t1, ty, pos, after, none⟩ ⟨lk' fl, S'⟩ K := zn9 (m := (@OfNat.ofNat Nat m (instOfNatNat m))) (n := n) hT kk rfl hy h
theorem zc7 {t0 t1 : TypeId} {x : Operand} {m n : Nat} (hT : TOk P T) (kk : K ⟨lk' ((d, ivl .u64 ((m * (@OfNat.ofNat Nat n (instOfNatNat n)) : Nat) : Int)) :: fl), S'⟩) (hx : opO fl x = some (ivl .u64 (m : Int)) := by exact rfl) (h : m * (@OfNat.ofNat Nat n (instOfNatNat n)) < 18446744073709551616 := by first | exact True.intro | omega | (simp only [and_true, List.length_map, List.length_replicate, List.length_set, List.length_append, List.length_cons, List.length_nil, List.length_take, List.length_drop] at *; omega)) :
    Stp P mu ops ⟨some d, .binOp .mul t0 x (.const (.int .u64 (@OfNat.ofNat Int n instOfNat))) t1, ty, pos, after, none⟩ ⟨lk' fl, S'⟩ K := zn9 (m := m) (n := (@OfNat.ofNat Nat n (instOfNatNat n))) hT kk hx rfl h
theorem zc8 {t0 t1 : TypeId} {x : Operand} {m n : Nat} (hT : TOk P T) (kk : K ⟨lk' ((d, ivl .u64 ((m % (@OfNat.ofNat Nat n (instOfNatNat n)) : Nat) : Int)) :: fl), S'⟩) (hx : opO fl x = some (ivl .u64 (m : Int)) := by exact rfl) (h : (@OfNat.ofNat Nat n (instOfNatNat n)) ≠ 0 := by first | exact True.intro | omega | (simp only [and_true, List.length_map, List.length_replicate, List.length_set, List.length_append, List.length_cons, List.length_nil, List.length_take, List.length_drop] at *; omega)) :
    Stp P mu ops ⟨some d, .binOp .rem t0 x (.const (.int .u64 (@OfNat.ofNat Int n instOfNat))) t1, ty, pos, after, none⟩ ⟨lk' fl, S'⟩ K := zg6 (m := m) (n := (@OfNat.ofNat Nat n (instOfNatNat n))) hT kk hx rfl h
theorem zc9 {t0 t1 : TypeId} {x : Operand} {m n : Nat} (hT : TOk P T) (kk : K ⟨lk' ((d, ivl .u64 ((m / (@OfNat.ofNat Nat n (instOfNatNat n)) : Nat) : Int)) :: fl), S'⟩) (hx : opO fl x = some (ivl .u64 (m : Int)) := by exact rfl) (h : m < 18446744073709551616 ∧ (@OfNat.ofNat Nat n (instOfNatNat n)) ≠ 0 := by first | exact True.intro | omega | (simp only [and_true, List.length_map, List.length_replicate, List.length_set, List.length_append, List.length_cons, List.length_nil, List.length_take, List.length_drop] at *; omega)) :
    Stp P mu ops ⟨some d, .binOp .quo t0 x (.const (.int .u64 (@OfNat.ofNat Int n instOfNat))) t1, ty, pos, after, none⟩ ⟨lk' fl, S'⟩ K := zg5 (m := m) (n := (@OfNat.ofNat Nat n (instOfNatNat n))) hT kk hx rfl h
theorem zc10 {t0 t1 : TypeId} {x : Operand} {m n : Nat} (hT : TOk P T) (kk : K ⟨lk' ((d, ivl .i64 ((m % (@OfNat.ofNat Nat n (instOfNatNat n)) : Nat) : Int)) :: fl), S'⟩) (hx : opO fl x = some (ivl .i64 (m : Int)) := by exact rfl) (h : (@OfNat.ofNat Nat n (instOfNatNat n)) ≠ 0 := by first | exact True.intro | omega | (simp only [and_true, List.length_map, List.length_replicate, List.length_set, List.length_append, List.length_cons, List.length_nil, List.length_take, List.length_drop] at *; omega)) :
    Stp P mu ops ⟨some d, .binOp .rem t0 x (.const (.int .i64 (@OfNat.ofNat Int n instOfNat))) t1, ty, pos, after, none⟩ ⟨lk' fl, S'⟩ K := zn11 (m := m) (n := (@OfNat.ofNat Nat n (instOfNatNat n))) hT kk hx rfl h
theorem zc11 {t0 t1 : TypeId} {x : Operand} {m n : Nat} (hT : TOk P T) (kk : K ⟨lk' ((d, ivl .i64 ((m / (@OfNat.ofNat Nat n (instOfNatNat n)) : Nat) : Int)) :: fl), S'⟩) (hx : opO fl x = some (ivl .i64 (m : Int)) := by exact rfl) (h : m < 9223372036854775808 ∧ (@OfNat.ofNat Nat n (instOfNatNat n)) ≠ 0 := by first | exact True.intro | omega | (simp only [and_true, List.length_map, List.length_replicate, List.length_set, List.length_append, List.length_cons, List.length_nil, List.length_take, List.length_drop] at *; omega)) :
    Stp P mu ops ⟨some d, .binOp .quo t0 x (.const (.int .i64 (@OfNat.ofNat Int n instOfNat))) t1, ty, pos, after, none⟩ ⟨lk' fl, S'⟩ K := zn10 (m := m) (n := (@OfNat.ofNat Nat n (instOfNatNat n))) hT kk hx rfl h
theorem zc12 {t0 t1 : TypeId} {y : Operand} {m n : Nat} (hT : TOk P T) (kk : K ⟨lk' ((d, ivl .u64 (((@OfNat.ofNat Nat m (instOfNatNat m)) / n : Nat) : Int)) :: fl), S'⟩) (hy : opO fl y = some (ivl .u64 (n : Int)) := by exact rfl) (h : (@OfNat.ofNat Nat m (instOfNatNat m)) < 18446744073709551616 ∧ n ≠ 0 := by first | exact True.intro | omega | (simp only [and_true, List.length_map, List.length_replicate, List.length_set, List.length_append, List.length_cons, List.length_nil, List.length_take, List.length_drop] at *; omega)) :
    Stp P mu ops ⟨some d, .binOp .quo t0 (.const (.int .u64 (@OfNat.ofNat Int m instOfNat))) y t1, ty, pos, after, none⟩ ⟨lk' fl, S'⟩ K := zg5 (m := (@OfNat.ofNat Nat m (instOfNatNat m))) (n := n) hT kk rfl hy h
end
end Go.Abs

/-
  Types told out of the tables.
-/
namespace Go.Abs
open Go

def isAggD : TypeDesc → Bool
  | .struct _ => true
  | .array _ _ => true
  | _ => false
def tiOf (t u : TypeInfo) : TI := ⟨u.desc, t.size, t.bytes, isAggD u.desc, match t.zero with | some z => z | none => .bool false⟩

def notNamed : TypeDesc → Bool
  | .named _ _ => false
  | _ => true

theorem info_of {P : Program} {t : TypeId} {i : TypeInfo} (h : P.types[t]? = some i) : P.info? t = some i := by
  have hlt := (Array.getElem?_eq_some_iff.1 h).1
  show Tables.info? _ _ = _
  unfold Tables.info?
  rw [if_pos hlt]; exact h

theorem tiOk1 {P : Program} {t : TypeId} {i u : TypeInfo} (hi : P.info? t = some i) (hu : P.underlying t = some u.desc) (hz : i.zero.isSome = true) : TIok P t (tiOf i u) := by
  refine ⟨hu, by simp [Program.cellsOf, hi, tiOf], by simp [Program.bytesOf, hi, tiOf], ?_, ?_⟩
  · simp only [aggT, hu, Option.map_some, tiOf, Option.some.injEq]
    cases u.desc <;> rfl
  · cases e : i.zero with
    | none => rw [e] at hz; cases hz
    | some z => simp [zeroOf, hi, tiOf, e]

theorem tiOk {P : Program} {t : TypeId} {i : TypeInfo} (h : P.types[t]? = some i) (hn : notNamed i.desc = true) (hz : i.zero.isSome = true) : TIok P t (tiOf i i) := by
  refine tiOk1 (info_of h) ?_ hz
  unfold Program.underlying
  rw [info_of h]
  obtain ⟨desc, _⟩ := i
  cases desc <;> first | rfl | cases hn

theorem tiOkN {P : Program} {t q : TypeId} {a : String} {i u : TypeInfo} (h : P.types[t]? = some i) (hn : i.desc = .named a q) (h2 : P.types[q]? = some u) (hz : i.zero.isSome = true) : TIok P t (tiOf i u) := by
  refine tiOk1 (info_of h) ?_ hz
  unfold Program.underlying
  rw [info_of h]
  obtain ⟨desc, _⟩ := i
  simp only at hn
  subst hn
  simp [info_of h2]
end Go.Abs
