/-
  An abstract machine for this program, and contracts of its functions: part Mad (no statement by itself).
-/
import Derived.Test.YtdbjhcgogmfghaaDoorMac
set_option linter.unusedVariables false
set_option linter.unusedSimpArgs false
set_option linter.unnecessarySimpa false

/-
  Rules for code; contracts.
-/
namespace Go.Abs
open Go

section
variable {P : Program} {mu : FuncId → Bool} {N : Nat} {Q : Exit → St → Prop} {st : St}

theorem awp_weak {c : Code} (F : St) (hw : Weak st F) (h : awp P mu N c Q F) : awp P mu N c Q st := fun hm hok B w ρ a hd hn hi => by
  obtain ⟨ρ', hi'⟩ := hi.weak hw
  exact h hm hok B w ρ' a hd hn hi'

theorem ends_mono {B : Base} {Q Q' : Exit → St → Prop} (h : ∀ e st, Q e st → Q' e st) {e : Exit} {a : Act} {w : World} (hh : Ends B N Q e a w) : Ends B N Q' e a w := by
  obtain ⟨h1, h2, st, ρ, h3, h4⟩ := hh
  exact ⟨h1, h2, st, ρ, h3, h e st h4⟩

theorem awp_mono {c : Code} {Q' : Exit → St → Prop} (h : awp P mu N c Q st) (hq : ∀ e st, Q e st → Q' e st) : awp P mu N c Q' st := fun hm hok B w ρ a hd hn hi =>
  Code.wp_mono (fun _ _ _ => ends_mono hq) (h hm hok B w ρ a hd hn hi)

theorem awp_region {id : Nat} {ops : Array Oper} {draw : Bool} (h : aOps P mu ops ops.toList (Q .normal) st) (hl : draw = true → (ne4 ops.toList || lexOK mu ops) = true) : awp P mu N (.region id ops draw) Q st := fun hm hok B w ρ a hd hn hi => by
  simp only [okC, Bool.and_eq_true, List.all_eq_true, Bool.or_eq_true, Bool.not_eq_true'] at hok
  have hb : ∀ o ∈ ops.toList, ∀ t, o.dst = some t → t < N := fun o ho t ht => by
    have := hok.1 o ho
    rw [ht] at this
    simpa using this
  cases draw with
  | false => exact wp_region_list (aOps_sound ops.toList st w ρ a hb hd hn hi h)
  | true =>
    have hB : lexOK mu ops = true := by
      have h1 := hl rfl
      rcases hok.2 with h2 | h2
      · exact h2.resolve_left (by simp)
      · rw [h2] at h1; simpa using h1
    refine wp_region_any hm ?_
    have hi' := hi.heap (w' := { w with drawn := w.drawn + 1 }) rfl rfl rfl rfl
    refine aAny_sound (mu := mu) (fun o ho => hb o (by simpa using ho)) _ _ st _ ρ a hd hn hi' ?_
    have := aAny_lex hB ops.toList 0 (Array.replicate ops.size false) st (by simp) (by simp) (fun _ => hi.sim.wf) ⟨by simp, fun k o ho hk => by
      rcases Nat.lt_or_ge k ops.size with q | q
      · simp [Array.getD_eq_getD_getElem?, q] at hk
      · rw [Array.getElem?_eq_none q] at ho; cases ho⟩ (fun j => by
      rcases Nat.lt_or_ge j ops.size with q | q
      · simp [Array.getD_eq_getD_getElem?, q]
      · simp [Array.getD_eq_getD_getElem?, Array.getElem?_eq_none (show (Array.replicate ops.size false).size ≤ j by simpa using q)]; omega) (fun j => by
      rcases Nat.lt_or_ge j ops.size with q | q
      · simp [Array.getD_eq_getD_getElem?, q]
      · simp [Array.getD_eq_getD_getElem?, Array.getElem?_eq_none (show (Array.replicate ops.size false).size ≤ j by simpa using q)]) h
    simpa using this

def thenA (K : St → Prop) (Q : Exit → St → Prop) : Exit → St → Prop
  | .normal, st => K st
  | e, st => Q e st

theorem awp_seq {x y : Code} (h : awp P mu N x (thenA (awp P mu N y Q) Q) st) : awp P mu N (.seq x y) Q st := fun hm hok B w ρ a hd hn hi => by
  simp only [okC, Bool.and_eq_true] at hok
  refine wp_seq (Code.wp_mono ?_ (h hm hok.1 B w ρ a hd hn hi))
  rintro e a' w' ⟨h1, h2, st', ρ', h3, h4⟩
  cases e with
  | normal => exact h4 hm hok.2 B w' ρ' a' h1 h2 h3
  | _ => exact ⟨h1, h2, st', ρ', h3, h4⟩

theorem awp_cond {c : Operand} {x y : Code} {t : Bool} (hc : look st.fr c = bvl t) (h1 : t = true → awp P mu N x Q st) (h2 : t = false → awp P mu N y Q st) : awp P mu N (.cond c x y) Q st := fun hm hok B w ρ a hd hn hi => by
  simp only [okC, Bool.and_eq_true] at hok
  have hv := hi.sim.look c
  rw [hc] at hv
  have hv := vs_sc hv
  exact wp_cond_split hv (fun e => h1 e hm hok.1 B w ρ a hd hn hi) (fun e => h2 e hm hok.2 B w ρ a hd hn hi)

def blockA (id : Nat) (Q : Exit → St → Prop) : Exit → St → Prop
  | .exit id', st => if id' = id then Q .normal st else Q (.exit id') st
  | e, st => Q e st

theorem awp_block {id : Nat} {c : Code} (h : awp P mu N c (blockA id Q) st) : awp P mu N (.block id c) Q st := fun hm hok B w ρ a hd hn hi => by
  refine wp_block (Code.wp_mono ?_ (h hm hok B w ρ a hd hn hi))
  rintro e a' w' ⟨h1, h2, st', ρ', h3, h4⟩
  cases e with
  | exit id' =>
    simp only [Exit.inBlock]
    simp only [blockA] at h4
    split
    · rename_i e; rw [if_pos e] at h4; exact ⟨h1, h2, st', ρ', h3, h4⟩
    · rename_i e; rw [if_neg e] at h4; exact ⟨h1, h2, st', ρ', h3, h4⟩
  | _ => exact ⟨h1, h2, st', ρ', h3, h4⟩

theorem awp_exit {id : Nat} (h : Q (.exit id) st) : awp P mu N (.exit id) Q st := fun _ _ _ _ ρ _ hd hn hi => wp_exit ⟨hd, hn, st, ρ, hi, h⟩
theorem awp_ret (h : Q .ret st) : awp P mu N .ret Q st := fun _ _ _ _ ρ _ hd hn hi => wp_ret ⟨hd, hn, st, ρ, hi, h⟩
theorem awp_skip (h : Q .normal st) : awp P mu N .skip Q st := fun _ _ _ _ ρ _ hd hn hi => wp_skip ⟨hd, hn, st, ρ, hi, h⟩

theorem least_of {A : Nat → Prop} : ∀ n, A n → ∃ m, A m ∧ ∀ k, A k → m ≤ k := by
  intro n
  induction n using Nat.strongRecOn with
  | _ n ih =>
    intro h
    by_cases hq : ∃ k, k < n ∧ A k
    · obtain ⟨k, hk, ha⟩ := hq; exact ih k hk ha
    · exact ⟨n, h, fun k hk => by rcases Nat.lt_or_ge k n with q | q; exact absurd ⟨k, q, hk⟩ hq; exact q⟩

open Classical in
theorem awp_loop {c : Code} {ι : Type} (F : ι → St) (μ : ι → Nat) (i0 : ι) (h0 : Weak st (F i0)) (hr : ∀ i, awp P mu N c (thenA (fun st' => ∃ i', Weak st' (F i') ∧ μ i' < μ i) Q) (F i)) : awp P mu N (.loop c) Q st := fun hm hok B w ρ a hd hn hi => by
  have hokc : okC N mu c = true := hok
  obtain ⟨ρ0, hi0⟩ := hi.weak h0
  let I : Act → World → Nat → Prop := fun a w n => ∃ i ρ, μ i = n ∧ a.defers = [] ∧ a.tmps.size = N ∧ Inv B w ρ (F i) a.tmps
  let m : Act → World → Nat := fun a w => if h : ∃ n, I a w n then Classical.choose (least_of _ h.choose_spec) else 0
  have hmin : ∀ a w n, I a w n → I a w (m a w) ∧ m a w ≤ n := by
    intro a w n h
    have hex : ∃ n, I a w n := ⟨n, h⟩
    have hs := Classical.choose_spec (least_of _ hex.choose_spec)
    have e : m a w = Classical.choose (least_of _ hex.choose_spec) := by simp only [m]; rw [dif_pos hex]
    rw [e]
    exact ⟨hs.1, hs.2 n h⟩
  refine wp_loop (fun a w => ∃ n, I a w n) m ⟨μ i0, i0, ρ0, rfl, hd, hn, hi0⟩ ?_
  rintro a w ⟨n, hI⟩
  obtain ⟨⟨i, ρ, hmu, hd, hn, hi⟩, -⟩ := hmin a w n hI
  refine Code.wp_mono ?_ (hr i hm hokc B w ρ a hd hn hi)
  rintro e a' w' ⟨h1, h2, st', ρ', h3, h4⟩
  cases e with
  | normal =>
    obtain ⟨i', h5, h6⟩ := h4
    obtain ⟨ρ2, h7⟩ := h3.weak h5
    have hI' : I a' w' (μ i') := ⟨i', ρ2, rfl, h1, h2, h7⟩
    exact ⟨⟨_, hI'⟩, by have := (hmin a' w' _ hI').2; omega⟩
  | _ => exact ⟨h1, h2, st', ρ', h3, h4⟩

/-! ### Contracts -/
def Nm.unout : Nm → Nm
  | .out m => m
  | m => m

def pushS (S : Store) : Store
  | .out m => (S m).map (·.map .out)
  | _ => none

def entryF (args : List AVal) : Fram := fun t => match args[t]? with | some x => x.map .out | none => undefA

def resE (P : Program) (st : St) (rv : ResultVar) (v : AVal) : Prop :=
  match rv with
  | .tmp t => v = st.fr t
  | .cell a t => loadE P st.sg t (st.fr a) v

def ressE (P : Program) (st : St) : List ResultVar → List AVal → Prop
  | [], vs => vs = []
  | r :: rs, vs => ∃ v vs', resE P st r v ∧ ressE P st rs vs' ∧ vs = v :: vs'

def oneR : List AVal → AVal
  | [x] => x
  | xs => .tup xs

theorem Cell.map_map {f g : Nm → Nm} (x : Cell) : (x.map f).map g = x.map (fun m => g (f m)) := by cases x <;> rfl
theorem Cell.map_maps {f g : Nm → Nm} (cs : List Cell) : (cs.map (·.map f)).map (·.map g) = cs.map (·.map fun m => g (f m)) := by
  rw [List.map_map]; exact List.map_congr_left fun x _ => x.map_map
theorem AVal.map1_map {f g : Nm → Nm} (x : AVal) : (x.map1 f).map1 g = x.map1 (fun m => g (f m)) := by
  cases x <;> simp only [AVal.map1, Cell.map_map, Cell.map_maps]
theorem AVal.map_map {f g : Nm → Nm} (x : AVal) : (x.map f).map g = x.map (fun m => g (f m)) := by
  cases x with
  | tup xs => simp only [AVal.map, List.map_map]; congr 1; exact List.map_congr_left fun x _ => x.map1_map
  | c x => exact AVal.map1_map (.c x)
  | agg x => exact AVal.map1_map (.agg x)
  | fn f x => exact AVal.map1_map (.fn f x)
  | accv m n => rfl
  | accp m n => rfl
theorem AObj.map_map {f g : Nm → Nm} (x : AObj) : (x.map f).map g = x.map (fun m => g (f m)) := by
  cases x with
  | acc ty sz L =>
    simp only [AObj.map, List.map_map]
    congr 1
    exact List.map_congr_left fun c _ => Cell.map_maps c
  | _ => simp only [AObj.map, Cell.map_maps]

theorem Cell.map_at {f : Nm → Nm} {x : Cell} {m : Nm} (h : (x.map f).at m) : ∃ n, x.at n ∧ m = f n := by
  cases x <;> first
    | exact h.elim
    | exact ⟨_, rfl, h.symm⟩
theorem AVal.map1_at {f : Nm → Nm} {x : AVal} {m : Nm} (h : (x.map1 f).at1 m) : ∃ n, x.at1 n ∧ m = f n := by
  cases x with
  | c x => exact Cell.map_at h
  | agg cs => obtain ⟨y, hy, hq⟩ := h; obtain ⟨z, hz, rfl⟩ := List.mem_map.1 hy; obtain ⟨n, a, b⟩ := Cell.map_at hq; exact ⟨n, ⟨z, hz, a⟩, b⟩
  | fn g cs => obtain ⟨y, hy, hq⟩ := h; obtain ⟨z, hz, rfl⟩ := List.mem_map.1 hy; obtain ⟨n, a, b⟩ := Cell.map_at hq; exact ⟨n, ⟨z, hz, a⟩, b⟩
  | accv m' n => exact ⟨_, rfl, h.symm⟩
  | accp m' n => exact ⟨_, rfl, h.symm⟩
  | tup xs => exact h.elim
theorem AVal.map_at {f : Nm → Nm} {x : AVal} {m : Nm} (h : (x.map f).at m) : ∃ n, x.at n ∧ m = f n := by
  cases x with
  | tup xs => obtain ⟨y, hy, hq⟩ := h; obtain ⟨z, hz, rfl⟩ := List.mem_map.1 hy; obtain ⟨n, a, b⟩ := AVal.map1_at hq; exact ⟨n, ⟨z, hz, a⟩, b⟩
  | c x => exact AVal.map1_at (x := .c x) h
  | agg x => exact AVal.map1_at (x := .agg x) h
  | fn g x => exact AVal.map1_at (x := .fn g x) h
  | accv m' n => exact ⟨_, rfl, h.symm⟩
  | accp m' n => exact ⟨_, rfl, h.symm⟩

theorem pushS_some {S : Store} {n : Nm} {o : AObj} (h : pushS S n = some o) : ∃ m b, n = .out m ∧ S m = some b ∧ o = b.map .out := by
  cases n with
  | out m =>
    simp only [pushS, Option.map_eq_some_iff] at h
    obtain ⟨b, h1, h2⟩ := h
    exact ⟨m, b, rfl, h1, h2.symm⟩
  | _ => cases h

theorem back_push {S : Store} (hc : ∀ n b, S n = some b → b.cl S) : Back Nm.unout S (pushS S) where
  inj m n hm hn e := by
    cases h1 : pushS S m with
    | none => exact absurd h1 hm
    | some o =>
      cases h2 : pushS S n with
      | none => exact absurd h2 hn
      | some o' =>
        obtain ⟨a, b, rfl, -, -⟩ := pushS_some h1
        obtain ⟨a', b', rfl, -, -⟩ := pushS_some h2
        simp only [Nm.unout] at e
        rw [e]
  at_ m o h := by
    obtain ⟨a, b, rfl, h1, rfl⟩ := pushS_some h
    simp only [Nm.unout, h1, AObj.map_map, Option.some.injEq]
    exact (AObj.map_id b).symm
  cl m o h := by
    obtain ⟨a, b, rfl, h1, rfl⟩ := pushS_some h
    have := hc a b h1
    cases b with
    | cells ty cs =>
      intro x hx n hn
      obtain ⟨y, hy, rfl⟩ := List.mem_map.1 hx
      obtain ⟨q, hq, rfl⟩ := Cell.map_at hn
      have := this y hy q hq
      cases e : S q with
      | none => exact absurd e this
      | some z => simp [pushS, e]
    | ints ty k L => trivial
    | fix x => trivial
    | row ty cs =>
      intro x hx n hn
      obtain ⟨y, hy, rfl⟩ := List.mem_map.1 hx
      obtain ⟨q, hq, rfl⟩ := Cell.map_at hn
      have := this y hy q hq
      cases e : S q with
      | none => exact absurd e this
      | some z => simp [pushS, e]
    | acc ty k L =>
      intro c hc x hx n hn
      obtain ⟨c', hc', rfl⟩ := List.mem_map.1 hc
      obtain ⟨y, hy, rfl⟩ := List.mem_map.1 hx
      obtain ⟨q, hq, rfl⟩ := Cell.map_at hn
      have := this c' hc' y hy q hq
      cases e : S q with
      | none => exact absurd e this
      | some z => simp [pushS, e]

def resRun (tm : Array Value) : ResultVar → Sem Value
  | .tmp t => pure (tm.getD t undef)
  | .cell a t => do loadVar t (← asAddr (tm.getD a undef))

theorem results_eq (fn : Func) (tm : Array Value) : results fn tm = (do let vs ← fn.results.mapM (resRun tm); pure (if h : vs.size = 1 then vs[0] else .tuple vs)) := by
  unfold results
  congr 2

theorem run_results {w : World} {ρ : Nm → Nat} {tm : Array Value} (h : Sim w ρ st tm) : ∀ (rs : List ResultVar) (vs : List AVal), ressE P st rs vs → ∃ us : List Value,
    (rs.mapM (resRun tm)).run P w = .ok us w ∧ VSs w ρ st.sg vs us
  | [], vs, hv => by simp only [ressE] at hv; subst hv; exact ⟨[], rfl, rfl, fun i x hi => by simp at hi⟩
  | rv :: rs, vs, ⟨v, vs', h1, h2, e⟩ => by
    subst e
    obtain ⟨us, h3, h4⟩ := run_results h rs vs' h2
    have hv : ∃ u, (resRun tm rv).run P w = .ok u w ∧ VS w ρ st.sg v u := by
      cases rv with
      | tmp t => exact ⟨_, rfl, by simp only [resE] at h1; rw [h1]; exact h.fr t⟩
      | cell x t =>
        simp only [resE] at h1
        obtain ⟨u, h5, h6⟩ := loadE_run (P := P) h.env (h.fr x) h1
        refine ⟨u, ?_, h6⟩
        have : ∃ ad, tm.getD x undef = .pointer (some ad) := by
          have hx := h.fr x
          unfold loadE at h1
          split at h1
          · rename_i e; rw [e] at hx; obtain ⟨-, q⟩ := hx; exact ⟨_, q⟩
          · rename_i e; rw [e] at hx; obtain ⟨b, off, q, -⟩ := hx; exact ⟨_, q⟩
          · rename_i e; rw [e] at hx; obtain ⟨_, _, _, -, -, q⟩ := hx; exact ⟨_, q⟩
          · exact h1.elim
        obtain ⟨ad, e⟩ := this
        simp only [Instr.loadAt, e, Instr.sureAddr, Sem.run_bind, Sem.run_pure, Result.andThen_ok] at h5
        simp only [resRun, e, asAddr, Sem.run_bind, Sem.run_pure, Result.andThen_ok]
        exact h5
    obtain ⟨u, h5, h6⟩ := hv
    refine ⟨u :: us, ?_, by simp [h4.1], fun i x hi => ?_⟩
    · rw [List.mapM_cons]
      simp only [Sem.run_bind, h5, Result.andThen_ok, h3, Sem.run_pure]
    · match i with
      | 0 => simp only [List.getElem?_cons_zero, Option.some.injEq] at hi; subst hi; exact ⟨u, rfl, h6⟩
      | i + 1 => exact h4.2 i x (by simpa using hi)

theorem oneR_held {w : World} {ρ : Nm → Nat} {S : Store} : ∀ (rs : List AVal) (us : List Value), VSs w ρ S rs us → (∀ x ∈ rs, rs.length = 1 ∨ (x.flat ∧ ∀ m o, x ≠ .accv m o ∧ x ≠ .accp m o)) →
    VS w ρ S (oneR rs) (if h : us.toArray.size = 1 then us.toArray[0] else .tuple us.toArray)
  | [x], [u], h8, _ => by
    obtain ⟨u', q1, q2⟩ := h8.2 0 x rfl
    simp only [List.getElem?_cons_zero, Option.some.injEq] at q1
    subst q1
    exact q2
  | [], [], _, _ => ⟨#[], rfl, rfl, fun i x hi => by simp at hi⟩
  | x :: y :: rs, u :: u2 :: us, h8, h2 => by
    have : ¬ (u :: u2 :: us).toArray.size = 1 := by simp
    rw [dif_neg this]
    refine ⟨_, rfl, by simpa using h8.1, fun i z hi => ?_⟩
    obtain ⟨u', q1, q2⟩ := h8.2 i z hi
    refine ⟨u', by simpa using q1, ?_⟩
    rcases h2 z (List.mem_of_getElem? hi) with q | ⟨q, q'⟩
    · simp at q
    · cases z with
      | tup _ => exact q.elim
      | accv m o => exact absurd rfl (q' m o).1
      | accp m o => exact absurd rfl (q' m o).2
      | c _ => exact q2
      | agg _ => exact q2
      | fn _ _ => exact q2
  | [], _ :: _, h8, _ => by have := h8.1; simp at this
  | [_], [], h8, _ => by have := h8.1; simp at this
  | [_], _ :: _ :: _, h8, _ => by have := h8.1; simp at this
  | _ :: _ :: _, [], h8, _ => by have := h8.1; simp at this
  | _ :: _ :: _, [_], h8, _ => by have := h8.1; simp at this

def Nm.isNew (m n : Nm) : Bool :=
  match m with
  | .fam p i => decide (p = n) || decide (.fam p i = n)
  | m => decide (m = n)
theorem Nm.isNew_t {n m : Nm} (h : m.isNew n = true) : m = n ∨ ∃ i, m = .fam n i := by
  cases m with
  | fam p i =>
    simp only [Nm.isNew, Bool.or_eq_true, decide_eq_true_eq] at h
    rcases h with h | h
    · exact .inr ⟨i, by rw [h]⟩
    · exact .inl h
  | _ => simp only [Nm.isNew, decide_eq_true_eq] at h; exact .inl h
theorem Nm.isNew_self (n : Nm) : n.isNew n = true := by cases n <;> simp [Nm.isNew]
theorem Nm.isNew_ne {n m : Nm} (h : m.isNew n = false) : m ≠ n := fun e => by rw [e, Nm.isNew_self] at h; cases h
theorem Cell.map_out {φ : Nm → Nm} (hφ : ∀ m k, φ m = .out k → m = k) : ∀ {x y : Cell}, x.map φ = y.map .out → x = y := by
  intro x y h
  cases x <;> cases y <;> simp only [Cell.map] at h <;> first
    | (cases h; done)
    | (cases h; rfl)
    | (injection h with h1 h2 h3 h4; rw [hφ _ _ h1, h2, h3, h4])
    | (injection h with h1 h2; rw [hφ _ _ h1, h2])
theorem Cell.maps_out {φ : Nm → Nm} (hφ : ∀ m k, φ m = .out k → m = k) : ∀ {xs ys : List Cell}, xs.map (·.map φ) = ys.map (·.map .out) → xs = ys
  | [], [], _ => rfl
  | x :: xs, y :: ys, h => by
    simp only [List.map_cons, List.cons.injEq] at h
    rw [Cell.map_out hφ h.1, Cell.maps_out hφ h.2]
  | [], _ :: _, h => by cases h
  | _ :: _, [], h => by cases h
theorem Cell.mapss_out {φ : Nm → Nm} (hφ : ∀ m k, φ m = .out k → m = k) : ∀ {xs ys : List (List Cell)}, xs.map (·.map (·.map φ)) = ys.map (·.map (·.map .out)) → xs = ys
  | [], [], _ => rfl
  | x :: xs, y :: ys, h => by
    simp only [List.map_cons, List.cons.injEq] at h
    rw [Cell.maps_out hφ h.1, Cell.mapss_out hφ h.2]
  | [], _ :: _, h => by cases h
  | _ :: _, [], h => by cases h

theorem Cell.map_congr {φ ψ : Nm → Nm} {x : Cell} (h : ∀ q, x.at q → φ q = ψ q) : x.map φ = x.map ψ := by
  cases x <;> simp only [Cell.map] <;> rw [h _ rfl]
theorem Cell.maps_congr {φ ψ : Nm → Nm} {cs : List Cell} (h : ∀ x ∈ cs, ∀ q, x.at q → φ q = ψ q) : cs.map (·.map φ) = cs.map (·.map ψ) :=
  List.map_congr_left fun x hx => Cell.map_congr (h x hx)
theorem AVal.map1_congr {φ ψ : Nm → Nm} {x : AVal} (h : ∀ q, x.at1 q → φ q = ψ q) : x.map1 φ = x.map1 ψ := by
  cases x with
  | c x => simp only [AVal.map1, Cell.map_congr (x := x) h]
  | agg cs => simp only [AVal.map1, Cell.maps_congr (cs := cs) fun x hx q hq => h q ⟨x, hx, hq⟩]
  | fn f cs => simp only [AVal.map1, Cell.maps_congr (cs := cs) fun x hx q hq => h q ⟨x, hx, hq⟩]
  | accv m n => simp only [AVal.map1, h m rfl]
  | accp m n => simp only [AVal.map1, h m rfl]
  | tup xs => rfl
theorem AVal.map_congr {φ ψ : Nm → Nm} {x : AVal} (h : ∀ q, x.at q → φ q = ψ q) : x.map φ = x.map ψ := by
  cases x with
  | tup xs =>
    simp only [AVal.map]
    congr 1
    exact List.map_congr_left fun x hx => AVal.map1_congr fun q hq => h q ⟨x, hx, hq⟩
  | c x => exact AVal.map1_congr (x := .c x) h
  | agg x => exact AVal.map1_congr (x := .agg x) h
  | fn f x => exact AVal.map1_congr (x := .fn f x) h
  | accv m n => exact AVal.map1_congr (x := .accv m n) h
  | accp m n => exact AVal.map1_congr (x := .accp m n) h
theorem AObj.map_congr {φ ψ : Nm → Nm} {o : AObj} (h : ∀ x ∈ o.cls, ∀ q, x.at q → φ q = ψ q) : o.map φ = o.map ψ := by
  cases o with
  | cells ty cs => simp only [AObj.map, Cell.maps_congr (cs := cs) h]
  | ints ty k L => rfl
  | fix x => rfl
  | row ty cs => simp only [AObj.map, Cell.maps_congr (cs := cs) h]
  | acc ty sz L =>
    simp only [AObj.map]
    congr 1
    exact List.map_congr_left fun c hc => Cell.maps_congr fun x hx q hq => h x (List.mem_flatten.2 ⟨c, hc, hx⟩) q hq
def AObj.nm0 (o : AObj) : Prop := ∀ x ∈ o.cls, ∀ m, ¬ x.at m
theorem AObj.map_nm0 {φ : Nm → Nm} {o : AObj} (h : o.nm0) : o.map φ = o := by
  rw [AObj.map_congr (ψ := id) fun x hx q hq => absurd hq (h x hx q), AObj.map_id]
theorem AObj.cl_nm0 {S : Store} {o : AObj} (h : o.nm0) : o.cl S := AObj.cl_cls.2 fun x hx m hm => absurd hm (h x hx m)
theorem map_old {S : Store} {n : Nm} {g : Nm → Nm} {o : AObj} (hne : ∀ m, S m ≠ none → ¬ (m.isNew n = true)) (hc : o.cl S) : (o.map fun m => if m.isNew n = true then g m else .out m) = o.map .out :=
  AObj.map_congr fun x hx q hq => if_neg (hne q (AObj.cl_cls.1 hc x hx q hq))
theorem old_ne {S : Store} {n : Nm} (hn : S n = none) (hnf : ∀ i, S (.fam n i) = none) : ∀ m, S m ≠ none → ¬ (m.isNew n = true) := fun m hm e => by
  rcases Nm.isNew_t e with rfl | ⟨i, rfl⟩
  · exact hm hn
  · exact hm (hnf i)

def Fin (P : Program) (fn : Func) (S : Store) (n : Nm) (res : AVal) (ups : List (Nm × AObj)) (st : St) : Prop :=
  ∃ (rs : List AVal) (g : Nm → Nm), ressE P st fn.results.toList rs ∧ (∀ x ∈ rs, rs.length = 1 ∨ (x.flat ∧ ∀ m o, x ≠ .accv m o ∧ x ≠ .accp m o)) ∧ (∀ m : Nm, Nm.isOut (g m) = false) ∧
    Back (fun m => if m.isNew n = true then g m else .out m) st.sg (updL S ups) ∧ res.cl (updL S ups) ∧ oneR rs = res.map (fun m => if m.isNew n = true then g m else .out m)

theorem acalls {f : FuncId} {fn : Func} {c : Code} {args : List AVal} {Φ : Store} {res : Nm → AVal} {ups : Nm → List (Nm × AObj)} (hf : P.funcs[f]? = some fn) (hb : fn.body = some c) (hname : (fn.name == "runtime.NumGoroutine") = false)
    (hm : P.follows .mixedOrders = true) (hok : okC fn.ntmps mu c = true) (hl : args.length ≤ fn.ntmps)
    (h : ∀ n S, (∀ m, Rch Φ args m → S m = Φ m) → S n = none → (∀ i, S (.fam n i) = none) → (∀ n b, S n = some b → b.cl S) →
      awp P mu fn.ntmps c (fun e st => (e = .normal ∨ e = .ret) ∧ Fin P fn S n (res n) (ups n) st) ⟨entryF args, pushS S⟩) : ACalls P f args Φ res ups := by
  intro n S hag hn hnf w ρ vs he hgl hvs
  have hn' : ¬ fn.name = "runtime.NumGoroutine" := by simpa using hname
  refine .inl ⟨by simp [callFunc, hf, hn', hb], ?_⟩
  have hcl := he.cl
  have hback := back_push hcl
  have henv := hback.env he
  have hsize : (vs.toArray ++ Array.replicate (fn.ntmps - vs.toArray.size) undef).size = fn.ntmps := by
    have := hvs.1
    simp; omega
  refine calls_of_wp hf hb (Code.wp_mono ?_ (h n S hag hn hnf hcl hm hok ⟨w, fun m => ρ m.unout, pushS S⟩ w (fun m => ρ m.unout) ⟨vs.toArray ++ Array.replicate (fn.ntmps - vs.toArray.size) undef, []⟩ rfl hsize
    ⟨⟨henv.inj, henv.obj, fun t => ?_, fun g cs hg => (hgl g cs hg).imp fun b hb => ⟨⟨hb.1, fun m o hm hr => by
      obtain ⟨q, b', rfl, q1, rfl⟩ := pushS_some hm
      exact hb.2 q b' q1 (by rw [AObj.real_map] at hr; exact hr)⟩, fun _ => rfl⟩⟩, Ext.refl _ _ _, fun m o hm => by obtain ⟨a, b, rfl, -, -⟩ := pushS_some hm; rfl⟩))
  · rintro e a' w' ⟨hd, hN, st', ρ', hinv, hex, rs, g, h1, h2, h3, h4, h5, h6⟩
    obtain ⟨us, h7, h8⟩ := run_results hinv.sim fn.results.toList rs h1
    have hrun : ∃ v, (results fn a'.tmps).run P w' = .ok v w' ∧ VS w' ρ' st'.sg (oneR rs) v := by
      have e1 : (results fn a'.tmps).run P w' = .ok (if h : us.toArray.size = 1 then us.toArray[0] else .tuple us.toArray) w' := by
        rw [results_eq, ← Array.toArray_toList (xs := fn.results), List.mapM_toArray]
        simp only [Sem.run_bind, Sem.run_map, h7, Result.andThen_ok, Sem.run_pure]
      exact ⟨_, e1, oneR_held rs us h8 h2⟩
    obtain ⟨v, hv1, hv2⟩ := hrun
    rw [h6] at hv2
    have hR : ∃ ρ' v_1, Ending.returned v = .returned v_1 ∧ EnvS w' ρ' (updL S (ups n)) ∧ Ext (fun _ => False) w ρ S w' ρ' (updL S (ups n)) ∧ VS w' ρ' (updL S (ups n)) (res n) v_1 := by
      refine ⟨_, v, rfl, h4.env hinv.sim.env, ?_, h4.vs h5 hv2⟩
      have hx := hinv.ext
      have hne : ∀ {m o}, S m = some o → ¬ (m.isNew n = true) := fun hm e => by
        rcases Nm.isNew_t e with rfl | ⟨i, rfl⟩
        · rw [hn] at hm; cases hm
        · rw [hnf] at hm; cases hm
      have hφ : ∀ m k, (fun m : Nm => if m.isNew n = true then g m else Nm.out m) m = .out k → m = k := by
        intro m k e
        by_cases q : m.isNew n = true
        · simp only [if_pos q] at e; have := h3 m; rw [e] at this; cases this
        · simp only [if_neg q] at e; injection e
      refine ⟨hx.os, hx.tape, hx.output, hx.size, fun b hb1 hb2 => hx.old b hb1 (fun m o hm hr => ?_), fun m o' hm hr => ?_, fun m o hm ha => ?_, fun m o _ hm hr ty q hq => ?_, fun m ty k L _ hm => ?_, fun _ h => h.elim⟩
      · obtain ⟨q, b', rfl, q1, rfl⟩ := pushS_some hm
        exact hb2 q b' q1 (by rw [AObj.real_map] at hr; exact hr)
      · have h9 := h4.at_ m o' hm
        rcases hx.nms _ _ h9 (by rw [AObj.real_map]; exact hr) with ⟨o, a1, a2, a3⟩ | a1
        · obtain ⟨q, b', e1, q1, rfl⟩ := pushS_some a1
          by_cases e : m.isNew n = true
          · simp only [if_pos e] at e1
            have := h3 m
            rw [e1] at this; cases this
          · simp only [if_neg e] at e1
            injection e1 with e1
            subst e1
            refine .inl ⟨b', q1, by rw [AObj.real_map] at a2; exact a2, ?_⟩
            simp only [if_neg e] at a3 ⊢
            exact a3
        · exact .inr a1
      · have e := hne hm
        obtain ⟨o1, a1, a2, a3⟩ := hx.kp (.out m) (o.map .out) (by simp [pushS, hm]) (by rw [AObj.acc_map]; exact ha)
        cases hq : updL S (ups n) m with
        | none => exact absurd hq (updL_dom _ _ _ (by rw [hm]; simp))
        | some o' =>
          have h9 := h4.at_ m o' hq
          simp only [if_neg e] at h9
          rw [a1] at h9
          obtain rfl := Option.some.inj h9
          exact ⟨o', rfl, by rw [AObj.acc_map] at a2; exact a2, by simp only [if_neg e]; exact a3⟩
      · exact hx.szs (.out m) (o.map .out) (fun h => h) (by simp [pushS, hm]) (by rw [AObj.real_map]; exact hr) ty q hq
      · have e := hne hm
        obtain ⟨a1, a2⟩ := hx.acc (.out m) ty k (L.map (·.map (·.map .out))) (fun h => h) (by simp [pushS, hm, AObj.map])
        cases hq : updL S (ups n) m with
        | none => exact absurd hq (updL_dom _ _ _ (by rw [hm]; simp))
        | some o' =>
          have h9 := h4.at_ m o' hq
          simp only [if_neg e] at h9
          rw [a1] at h9
          have h10 := Option.some.inj h9
          clear h9
          cases o' with
          | acc ty' k' L' =>
            simp only [AObj.map, AObj.acc.injEq] at h10
            obtain ⟨rfl, rfl, h11⟩ := h10
            obtain rfl := Cell.mapss_out hφ h11.symm
            exact ⟨rfl, fun hl => by simp only [if_neg e]; exact a2 (by simpa using hl)⟩
          | cells _ _ => simp [AObj.map] at h10
          | ints _ _ _ => simp [AObj.map] at h10
          | fix _ => simp [AObj.map] at h10
          | row _ _ => simp [AObj.map] at h10
    rcases hex with rfl | rfl
    · exact ⟨hd, v, hv1, hR⟩
    · exact ⟨hd, v, hv1, hR⟩
  · simp only [entryF]
    cases e : args[t]? with
    | none =>
      have hge : args.length ≤ t := by simpa using e
      have hlen := hvs.1
      simp only
      have : (vs.toArray ++ Array.replicate (fn.ntmps - vs.toArray.size) undef).getD t undef = undef := by
        rw [Array.getD_eq_getD_getElem?]
        rcases Nat.lt_or_ge t fn.ntmps with q | q
        · rw [Array.getElem?_append_right (by simp; omega)]
          simp [show t - vs.length < fn.ntmps - vs.length by omega]
        · rw [Array.getElem?_eq_none (by rw [hsize]; exact q)]; rfl
      rw [this]
      rfl
    | some x =>
      obtain ⟨u, h1, h2⟩ := hvs.2 t x e
      have hlt : t < vs.length := by
        rcases Nat.lt_or_ge t vs.length with q | q
        · exact q
        · rw [List.getElem?_eq_none q] at h1; cases h1
      have : (vs.toArray ++ Array.replicate (fn.ntmps - vs.toArray.size) undef).getD t undef = u := by
        rw [Array.getD_eq_getD_getElem?, Array.getElem?_append_left (by simpa using hlt)]
        simp [h1]
      rw [this]
      refine hback.vs (fun m hm => ?_) ?_
      · obtain ⟨q, hq, rfl⟩ := AVal.map_at hm
        have := h2.cl q hq
        cases e2 : S q with
        | none => exact absurd e2 this
        | some z => simp [pushS, e2]
      · rw [AVal.map_map]
        have : (fun m => Nm.unout (Nm.out m)) = id := rfl
        rw [this, AVal.map_id]
        exact h2
end
end Go.Abs

/-
  States told by lists; what an operation yields, told by a function.
-/
namespace Go.Abs
open Go

abbrev FL := List (Nat × AVal)
abbrev SL := List (Nm × AObj)

def lkO : FL → Nat → Option AVal
  | [], _ => none
  | (s, v) :: r, t => match Nat.beq s t with
    | true => some v
    | false => lkO r t
def lk' (fl : FL) : Fram := fun t => (lkO fl t).getD (.c .junk)
def opO (fl : FL) : Operand → Option AVal
  | .tmp t => lkO fl t
  | .const v => match v with
    | .float .f64 n => some (fv (some n))
    | .complex .f64 a b => some (zv (some a) (some b))
    | v => some (.c (.sc v))
  | .global g => match GT g with | some cs => some (.c (.pim cs)) | none => none
  | .func f => some (.fn f [])
def opsO (fl : FL) : List Operand → Option (List AVal)
  | [] => some []
  | x :: xs => match opO fl x with
    | some v => match opsO fl xs with
      | some vs => some (v :: vs)
      | none => none
    | none => none

def lkS : SL → Nm → Option AObj
  | [], _ => none
  | (n, o) :: r, m => if m = n then some o else lkS r m
def ov (sl : SL) (S : Store) : Store := fun m => match lkS sl m with | some o => some o | none => S m

theorem lkS_hd {m : Nm} {o : AObj} {r : SL} : lkS ((m, o) :: r) m = some o := by simp [lkS]
theorem lkS_tl {n m : Nm} {o o' : AObj} {r : SL} (h : m ≠ n) (h2 : lkS r m = some o) : lkS ((n, o') :: r) m = some o := by simp [lkS, h, h2]
@[irreducible] def lkI (sl : SL) (m : Nm) : Option AObj := lkS sl m
theorem lkI_hd {m : Nm} {o : AObj} {r : SL} : lkI ((m, o) :: r) m = some o := by unfold lkI; exact lkS_hd
theorem lkI_tl {n m : Nm} {o o' : AObj} {r : SL} (h : m ≠ n) (h2 : lkI r m = some o) : lkI ((n, o') :: r) m = some o := by unfold lkI at *; exact lkS_tl h h2
theorem lk1 {sl : SL} {m : Nm} {o : AObj} (t : lkI sl m = some o := by exact lkI_hd) : lkI sl m = some o := t
theorem lk2 {sl : SL} {m : Nm} {o : AObj} (t : lkI sl m = some o := by first | exact lkI_hd | exact lkI_tl (by first | (simp; done) | (simp; first | assumption | exact Ne.symm (by assumption))) lk1) : lkI sl m = some o := t
theorem lk3 {sl : SL} {m : Nm} {o : AObj} (t : lkI sl m = some o := by first | exact lkI_hd | exact lkI_tl (by first | (simp; done) | (simp; first | assumption | exact Ne.symm (by assumption))) lk2) : lkI sl m = some o := t
theorem lk4 {sl : SL} {m : Nm} {o : AObj} (t : lkI sl m = some o := by first | exact lkI_hd | exact lkI_tl (by first | (simp; done) | (simp; first | assumption | exact Ne.symm (by assumption))) lk3) : lkI sl m = some o := t
theorem lk5 {sl : SL} {m : Nm} {o : AObj} (t : lkI sl m = some o := by first | exact lkI_hd | exact lkI_tl (by first | (simp; done) | (simp; first | assumption | exact Ne.symm (by assumption))) lk4) : lkI sl m = some o := t
theorem lk6 {sl : SL} {m : Nm} {o : AObj} (t : lkI sl m = some o := by first | exact lkI_hd | exact lkI_tl (by first | (simp; done) | (simp; first | assumption | exact Ne.symm (by assumption))) lk5) : lkI sl m = some o := t
theorem lk7 {sl : SL} {m : Nm} {o : AObj} (t : lkI sl m = some o := by first | exact lkI_hd | exact lkI_tl (by first | (simp; done) | (simp; first | assumption | exact Ne.symm (by assumption))) lk6) : lkI sl m = some o := t
theorem lk8 {sl : SL} {m : Nm} {o : AObj} (t : lkI sl m = some o := by first | exact lkI_hd | exact lkI_tl (by first | (simp; done) | (simp; first | assumption | exact Ne.symm (by assumption))) lk7) : lkI sl m = some o := t
theorem lk9 {sl : SL} {m : Nm} {o : AObj} (t : lkI sl m = some o := by first | exact lkI_hd | exact lkI_tl (by first | (simp; done) | (simp; first | assumption | exact Ne.symm (by assumption))) lk8) : lkI sl m = some o := t
theorem lks {sl : SL} {m : Nm} {o : AObj} (t : lkI sl m = some o := by first | exact lkI_hd | exact lkI_tl (by first | (simp; done) | (simp; first | assumption | exact Ne.symm (by assumption))) lk9) : lkS sl m = some o := by unfold lkI at t; exact t
theorem ov_of {sl : SL} {S : Store} {m : Nm} {o : AObj} (h : lkS sl m = some o) : ov sl S m = some o := by simp [ov, h]
theorem upd_ov (sl : SL) (S : Store) (m : Nm) (o : AObj) : upd (ov sl S) m o = ov ((m, o) :: sl) S := by
  funext n; simp only [upd, ov, lkS]; split <;> rfl
theorem putF_lk (fl : FL) (d : Nat) (v : AVal) : putF (lk' fl) (some d) v = lk' ((d, v) :: fl) := by
  funext t
  simp only [putF, lk', lkO]
  by_cases h : t = d
  · subst h; simp [Nat.beq_refl]
  · rw [if_neg h]
    have : Nat.beq d t = false := by
      cases e : Nat.beq d t with
      | false => rfl
      | true => exact absurd (Nat.eq_of_beq_eq_true e).symm h
    simp [this]
theorem lkO_look {fl : FL} {t : Nat} {v : AVal} (h : lkO fl t = some v) : lk' fl t = v := by simp [lk', h]
theorem opO_look {fl : FL} {x : Operand} {v : AVal} (h : opO fl x = some v) : look (lk' fl) x = v := by
  cases x with
  | tmp t => exact lkO_look h
  | const c =>
    simp only [opO] at h
    simp only [look, cellC]
    split at h
    · exact Option.some.inj h
    · exact Option.some.inj h
    · rename_i n1 n2
      split
      · rename_i e; exact absurd rfl (n1 _)
      · rename_i e; exact absurd rfl (n2 _ _)
      · exact Option.some.inj h
  | global g =>
    simp only [opO] at h
    split at h
    · rename_i e; simp only [look, e]; exact Option.some.inj h
    · cases h
  | func f => simpa [opO, look] using h
theorem opsO_look {fl : FL} : ∀ {xs : List Operand} {vs : List AVal}, opsO fl xs = some vs → xs.map (look (lk' fl)) = vs
  | [], vs, h => by simp only [opsO, Option.some.injEq] at h; simp [← h]
  | x :: xs, vs, h => by
    simp only [opsO] at h
    split at h
    · rename_i v hv
      split at h
      · rename_i vs' hvs
        simp only [Option.some.injEq] at h
        subst h
        simp [opO_look hv, opsO_look hvs]
      · cases h
    · cases h

def resI (ex : Bool) (k : IntKind) (n : Int) (C : Prop) : Option (AVal × Prop) :=
  match ex with
  | false => some (ivl k (k.wrap n), C)
  | true => match k with
    | .u64 => some (ivl .u64 n, (0 ≤ n ∧ n < 18446744073709551616) ∧ C)
    | .i64 => some (ivl .i64 n, (-9223372036854775808 ≤ n ∧ n < 9223372036854775808) ∧ C)
    | .u32 => some (ivl .u32 n, (0 ≤ n ∧ n < 4294967296) ∧ C)
    | .i32 => some (ivl .i32 n, (-2147483648 ≤ n ∧ n < 2147483648) ∧ C)
    | .u16 => some (ivl .u16 n, (0 ≤ n ∧ n < 65536) ∧ C)
    | .i16 => some (ivl .i16 n, (-32768 ≤ n ∧ n < 32768) ∧ C)
    | .u8 => some (ivl .u8 n, (0 ≤ n ∧ n < 256) ∧ C)
    | .i8 => some (ivl .i8 n, (-128 ≤ n ∧ n < 128) ∧ C)

theorem wrap_in {k : IntKind} {n : Int} (h : match k with
    | .u64 => 0 ≤ n ∧ n < 18446744073709551616
    | .i64 => -9223372036854775808 ≤ n ∧ n < 9223372036854775808
    | .u32 => 0 ≤ n ∧ n < 4294967296
    | .i32 => -2147483648 ≤ n ∧ n < 2147483648
    | .u16 => 0 ≤ n ∧ n < 65536
    | .i16 => -32768 ≤ n ∧ n < 32768
    | .u8 => 0 ≤ n ∧ n < 256
    | .i8 => -128 ≤ n ∧ n < 128) : k.wrap n = n := by
  cases k <;> simp only [] at h <;> simp [IntKind.wrap, IntKind.bits, IntKind.signed] <;> (try split) <;> omega

theorem resI_spec {ex : Bool} {k : IntKind} {n : Int} {C D : Prop} {v : AVal} (h : resI ex k n C = some (v, D)) (hd : D) : C ∧ v = ivl k (k.wrap n) := by
  cases ex with
  | false => simp only [resI, Option.some.injEq, Prod.mk.injEq] at h; obtain ⟨rfl, rfl⟩ := h; exact ⟨hd, rfl⟩
  | true =>
    cases k <;> simp only [resI, Option.some.injEq, Prod.mk.injEq] at h <;> obtain ⟨rfl, rfl⟩ := h <;> exact ⟨hd.2, by rw [wrap_in (by exact hd.1)]⟩

def cmpP (op : BinOp) (a b : Int) : Option Prop :=
  match op with
  | .eql => some (a = b)
  | .neq => some (¬ a = b)
  | .lss => some (a < b)
  | .leq => some (a ≤ b)
  | .gtr => some (b < a)
  | .geq => some (b ≤ a)
  | _ => none

def kEq : IntKind → IntKind → Bool
  | .u64, .u64 | .i64, .i64 | .u32, .u32 | .i32, .i32 | .u16, .u16 | .i16, .i16 | .u8, .u8 | .i8, .i8 => true
  | _, _ => false
theorem kEq_eq {k k' : IntKind} (h : kEq k k' = true) : k = k' := by cases k <;> cases k' <;> first | rfl | cases h

def arF (ex : Bool) (op : BinOp) (k : IntKind) (a b : Int) : Option (AVal × Prop) :=
  match op with
  | .add => resI ex k (a + b) True
  | .sub => resI ex k (a - b) True
  | .mul => resI ex k (a * b) True
  | .quo => match ex with
    | true => resI true k (a / b) (0 ≤ a ∧ b ≠ 0)
    | false => resI false k (a.tdiv b) (b ≠ 0)
  | .rem => match ex with
    | true => some (ivl k (a % b), 0 ≤ a ∧ b ≠ 0)
    | false => some (ivl k (a.tmod b), b ≠ 0)
  | _ => none

theorem arF_spec {ex : Bool} {op : BinOp} {k : IntKind} {a b : Int} {v : AVal} {C : Prop} (h : arF ex op k a b = some (v, C)) (hc : C) : isShift op = false ∧ intE op k a b v := by
  cases op <;> simp only [arF] at h <;> (first | cases h; done | skip)
  case add => exact ⟨rfl, (resI_spec h hc).2⟩
  case sub => exact ⟨rfl, (resI_spec h hc).2⟩
  case mul => exact ⟨rfl, (resI_spec h hc).2⟩
  case quo =>
    cases ex with
    | false => obtain ⟨h1, h2⟩ := resI_spec h hc; exact ⟨rfl, h1, h2⟩
    | true =>
      obtain ⟨⟨h1, h3⟩, h2⟩ := resI_spec h hc
      refine ⟨rfl, h3, ?_⟩
      rw [Int.tdiv_eq_ediv_of_nonneg h1]; exact h2
  case rem =>
    cases ex with
    | false => simp only [Option.some.injEq, Prod.mk.injEq] at h; obtain ⟨rfl, rfl⟩ := h; exact ⟨rfl, hc, rfl⟩
    | true =>
      simp only [Option.some.injEq, Prod.mk.injEq] at h
      obtain ⟨rfl, rfl⟩ := h
      exact ⟨rfl, hc.2, by rw [Int.tmod_eq_emod_of_nonneg hc.1]⟩

def shF (ex : Bool) (op : BinOp) (k : IntKind) (a b : Int) : Option (AVal × Prop) :=
  match ex, op with
  | false, .shl => resI false k (a * 2 ^ (min b.toNat k.bits)) (0 ≤ b)
  | false, .shr => some (ivl k (a.fdiv (2 ^ (min b.toNat k.bits))), 0 ≤ b)
  | _, _ => none
theorem shF_spec {ex : Bool} {op : BinOp} {k : IntKind} {a b : Int} {v : AVal} {C : Prop} (h : shF ex op k a b = some (v, C)) (hc : C) : isShift op = true ∧ shiftE op k a b v := by
  unfold shF at h
  split at h
  · obtain ⟨h1, h2⟩ := resI_spec h hc; exact ⟨rfl, h1, h2⟩
  · simp only [Option.some.injEq, Prod.mk.injEq] at h; obtain ⟨rfl, rfl⟩ := h; exact ⟨rfl, hc, rfl⟩
  · cases h

def binF (ex : Bool) (op : BinOp) (x y : AVal) : Option (AVal × Prop) :=
  match x, y with
  | .c (.sc (.int k a)), .c (.sc (.int k' b)) => match isShift op with
    | true => shF ex op k a b
    | false => match kEq k k' with
      | true => arF ex op k a b
      | false => none
  | _, _ => none

theorem binF_spec {P : Program} {T : TypeId} {ex : Bool} {op : BinOp} {x y v : AVal} {C : Prop} (h : binF ex op x y = some (v, C)) (hc : C) : binE P op T x y v := by
  unfold binF at h
  split at h
  · rename_i k a k' b
    simp only [binE]
    split at h
    · rename_i e; rw [if_pos e]; exact (shF_spec h hc).2
    · rename_i e
      split at h
      · rename_i e2
        rw [if_neg (by simp [e])]
        exact ⟨kEq_eq e2, (arF_spec h hc).2⟩
      · cases h
  · cases h

def unF (ex : Bool) (op : UnOp) (x : AVal) : Option (AVal × Prop) :=
  match op, x with
  | .neg, .c (.sc (.int k n)) => resI ex k (0 - n) True
  | .xor, .c (.sc (.int k n)) => some (ivl k (k.wrap (BitVec.ofInt k.bits (if k.signed then -1 else k.max) ^^^ BitVec.ofInt k.bits n).toNat), True)
  | .not, .c (.sc (.bool b)) => some (bvl (!b), True)
  | _, _ => none
theorem unF_spec {ex : Bool} {op : UnOp} {x v : AVal} {C : Prop} (h : unF ex op x = some (v, C)) (hc : C) : unE op x v := by
  unfold unF at h
  split at h
  · exact (resI_spec h hc).2
  · simp only [Option.some.injEq, Prod.mk.injEq] at h; exact h.1.symm
  · simp only [Option.some.injEq, Prod.mk.injEq] at h; exact h.1.symm
  · cases h

def lenF (x : AVal) : Option AVal :=
  match x with
  | .c (.ints _ L) => some (ivl .i64 L.length)
  | .c (.intc _ _ n) => some (ivl .i64 n)
  | .c (.seq _ L) => some (ivl .i64 L.length)
  | .c (.win _ _ n _) => some (ivl .i64 n)
  | .c (.sc (.slice none 0 0)) => some (ivl .i64 0)
  | .c (.seqc _ _ n) => some (ivl .i64 n)
  | .accv _ n => some (ivl .i64 n)
  | _ => none

def bndL (fl : FL) : Option Operand → Option (Option Int)
  | none => some none
  | some x => match opO fl x with
    | some (.c (.sc (.int _ i))) => some (some i)
    | _ => none
def bndC (lo hi : Option Int) (n c : Nat) : Nat × Nat × Prop :=
  match lo, hi with
  | none, none => (0, n, n ≤ c)
  | some a, none => (a.toNat, n, 0 ≤ a ∧ a ≤ n ∧ n ≤ c)
  | none, some b => (0, b.toNat, 0 ≤ b ∧ b ≤ c)
  | some a, some b => (a.toNat, b.toNat, 0 ≤ a ∧ a ≤ b ∧ b ≤ c)
theorem bnd_spec {fl : FL} {lo hi : Option Operand} {a b : Option Int} {n c : Nat} (h1 : bndL fl lo = some a) (h2 : bndL fl hi = some b) (hc : (bndC a b n c).2.2) :
    bndE (look (lk' fl)) lo hi n c (bndC a b n c).1 (bndC a b n c).2.1 := by
  have one : ∀ {x : Operand} {a : Option Int}, bndL fl (some x) = some a → ∃ k i, a = some i ∧ look (lk' fl) x = ivl k i := by
    intro x a h
    simp only [bndL] at h
    split at h
    · rename_i k i e; exact ⟨k, i, (Option.some.inj h).symm, opO_look e⟩
    · cases h
  cases lo with
  | none =>
    simp only [bndL, Option.some.injEq] at h1
    subst h1
    cases hi with
    | none => simp only [bndL, Option.some.injEq] at h2; subst h2; exact ⟨rfl, rfl, Nat.zero_le _, hc⟩
    | some y =>
      obtain ⟨k, i, rfl, e⟩ := one h2
      refine ⟨rfl, by simp only [e, bndC]; exact ⟨hc.1, trivial⟩, Nat.zero_le _, ?_⟩
      have := hc.2; simp only [bndC]; omega
  | some x =>
    obtain ⟨k, i, rfl, e⟩ := one h1
    cases hi with
    | none =>
      simp only [bndL, Option.some.injEq] at h2; subst h2
      refine ⟨by simp only [e, bndC]; exact ⟨hc.1, trivial⟩, rfl, ?_, hc.2.2⟩
      have := hc.2.1; simp only [bndC]; omega
    | some y =>
      obtain ⟨k', j, rfl, e'⟩ := one h2
      obtain ⟨q1, q2, q3⟩ := hc
      refine ⟨by simp only [e, bndC]; exact ⟨q1, trivial⟩, by simp only [e', bndC]; exact ⟨by omega, trivial⟩, ?_, ?_⟩ <;> simp only [bndC] <;> omega

structure TI where
  und : TypeDesc
  cells : Nat
  bytes : Nat
  agg : Bool
  zero : Value
abbrev TT := List (Nat × TI)
def tyO : TT → Nat → Option TI
  | [], _ => none
  | (s, v) :: r, t => match Nat.beq s t with
    | true => some v
    | false => tyO r t
def undT (T : TT) (t : Nat) : Option TypeDesc := match tyO T t with | some i => some i.und | none => none
def celT (T : TT) (t : Nat) : Nat := match tyO T t with | some i => i.cells | none => 0
def bytT (T : TT) (t : Nat) : Option Nat := match tyO T t with | some i => some i.bytes | none => none
def agT (T : TT) (t : Nat) : Option Bool := match tyO T t with | some i => some i.agg | none => none
def zerT (T : TT) (t : Nat) : Option Value := match tyO T t with | some i => some i.zero | none => none
def TIok (P : Program) (t : Nat) (i : TI) : Prop := P.underlying t = some i.und ∧ P.cellsOf t = i.cells ∧ P.bytesOf t = i.bytes ∧ aggT P t = some i.agg ∧ zeroOf P t = some i.zero
def TOk (P : Program) : TT → Prop
  | [] => True
  | (t, i) :: r => TIok P t i ∧ TOk P r
theorem TOk.at {P : Program} : ∀ {T : TT} {t : Nat} {i : TI}, TOk P T → tyO T t = some i → TIok P t i
  | (s, v) :: r, t, i, ⟨h1, h2⟩, h => by
    simp only [tyO] at h
    split at h
    · rename_i e
      have := Nat.eq_of_beq_eq_true e
      subst this
      obtain rfl := Option.some.inj h
      exact h1
    · exact TOk.at h2 h
section
variable {P : Program} {T : TT} (hT : TOk P T) {t : Nat}
include hT
theorem TOk.und {d : TypeDesc} (h : undT T t = some d) : P.underlying t = some d := by
  unfold undT at h; split at h
  · rename_i i hi; rw [← h]; exact (hT.at hi).1
  · cases h
theorem TOk.cel {n : Nat} (h : celT T t = n) (hn : n ≠ 0) : P.cellsOf t = n := by
  unfold celT at h; split at h
  · rename_i i hi; rw [← h]; exact (hT.at hi).2.1
  · exact absurd h.symm hn
theorem TOk.byt {n : Nat} (h : bytT T t = some n) : P.bytesOf t = n := by
  unfold bytT at h; split at h
  · rename_i i hi; rw [← Option.some.inj h]; exact (hT.at hi).2.2.1
  · cases h
theorem TOk.ag {b : Bool} (h : agT T t = some b) : aggT P t = some b := by
  unfold agT at h; split at h
  · rename_i i hi; rw [← h]; exact (hT.at hi).2.2.2.1
  · cases h
theorem TOk.zer {v : Value} (h : zerT T t = some v) : zeroOf P t = some v := by
  unfold zerT at h; split at h
  · rename_i i hi; rw [← h]; exact (hT.at hi).2.2.2.2
  · cases h
end

def sliceF (T : TT) (fl : FL) (t : TypeId) (x : Operand) (lo hi mx : Option Operand) : Option (AVal × Prop) :=
  match mx, undT T t, bndL fl lo, bndL fl hi with
  | none, some (.slice e), some a, some b => match celT T e with
    | 0 => none
    | 1 => match opO fl x with
      | some (.c (.ints k L)) => match bndC a b L.length L.length with | (l, h, C) => some (.c (.ints k ((L.drop l).take (h - l))), C)
      | some (.c (.intc k L n)) => match bndC a b n L.length with | (l, h, C) => some (.c (.intc k (L.drop l) (h - l)), C)
      | some (.c (.win m off len cm)) => match bndC a b len cm with | (l, h, C) => some (.c (.win m (off + l) (h - l) (cm - l)), C)
      | some (.c (.seq sz L)) => match Nat.beq sz 1, bndC a b L.length L.length with | true, (l, h, C) => some (.c (.seq sz ((L.drop l).take (h - l))), C) | false, _ => none
      | some (.c (.seqc sz L n)) => match Nat.beq sz 1, bndC a b n L.length with | true, (l, h, C) => some (.c (.seqc sz (L.drop l) (h - l)), C) | false, _ => none
      | some (.c (.sc (.slice none 0 0))) => match bndC a b 0 0 with | (_, _, C) => some (nils, C)
      | _ => none
    | n => match opO fl x with
      | some (.c (.seq sz L)) => match Nat.beq sz n, bndC a b L.length L.length with | true, (l, h, C) => some (.c (.seq sz ((L.drop l).take (h - l))), C) | false, _ => none
      | some (.c (.seqc sz L q)) => match Nat.beq sz n, bndC a b q L.length with | true, (l, h, C) => some (.c (.seqc sz (L.drop l) (h - l)), C) | false, _ => none
      | some (.c (.win m off len cm)) => match bndC a b len cm with | (l, h, C) => some (.c (.win m off h cm), C ∧ l = 0)
      | some (.c (.sc (.slice none 0 0))) => match bndC a b 0 0 with | (_, _, C) => some (nils, C)
      | _ => none
  | _, _, _, _ => none

theorem sliceF_spec {P : Program} {T : TT} (hT : TOk P T) {fl : FL} {t : TypeId} {x : Operand} {lo hi mx : Option Operand} {v : AVal} {C : Prop} (h : sliceF T fl t x lo hi mx = some (v, C)) (hc : C) : sliceE P (look (lk' fl)) t x lo hi mx v := by
  unfold sliceF at h
  split at h
  · rename_i e a b hu h1 h2
    refine ⟨rfl, e, hT.und hu, ?_⟩
    split at h
    · cases h
    · rename_i hce
      have hce := hT.cel hce (by decide)
      refine ⟨by omega, ?_⟩
      split at h
      · rename_i k L hx
        rw [opO_look hx]
        simp only [Option.some.injEq, Prod.mk.injEq] at h
        obtain ⟨rfl, rfl⟩ := h
        exact ⟨hce, _, _, bnd_spec h1 h2 hc, rfl⟩
      · rename_i k L n hx
        rw [opO_look hx]
        simp only [Option.some.injEq, Prod.mk.injEq] at h
        obtain ⟨rfl, rfl⟩ := h
        exact ⟨hce, _, _, bnd_spec h1 h2 hc, rfl⟩
      · rename_i m off len cm hx
        rw [opO_look hx]
        simp only [Option.some.injEq, Prod.mk.injEq] at h
        obtain ⟨rfl, rfl⟩ := h
        exact ⟨_, _, bnd_spec h1 h2 hc, by rw [hce, Nat.mul_one], .inl hce⟩
      · rename_i sz L hx
        rw [opO_look hx]
        split at h
        · rename_i q1 q2
          simp only [Option.some.injEq, Prod.mk.injEq] at h
          obtain ⟨rfl, rfl⟩ := h
          have := Nat.eq_of_beq_eq_true q1
          refine ⟨by omega, _, _, ?_, rfl⟩
          have hb := bnd_spec (n := L.length) (c := L.length) h1 h2 (by rw [q2]; exact hc)
          rw [q2] at hb
          exact hb
        · cases h
      · rename_i sz L q hx
        rw [opO_look hx]
        split at h
        · rename_i q1 q2
          simp only [Option.some.injEq, Prod.mk.injEq] at h
          obtain ⟨rfl, rfl⟩ := h
          have := Nat.eq_of_beq_eq_true q1
          refine ⟨by omega, _, _, ?_, rfl⟩
          have hb := bnd_spec (n := q) (c := L.length) h1 h2 (by rw [q2]; exact hc)
          rw [q2] at hb
          exact hb
        · cases h
      · rename_i hx
        rw [opO_look hx]
        simp only [Option.some.injEq, Prod.mk.injEq] at h
        obtain ⟨rfl, rfl⟩ := h
        exact ⟨_, _, bnd_spec h1 h2 hc, rfl⟩
      · cases h
    · rename_i n q0 q1
      have q2' := hT.cel (t := e) rfl q0
      refine ⟨by rw [q2']; exact q0, ?_⟩
      split at h
      · rename_i sz L hx
        rw [opO_look hx]
        split at h
        · rename_i q3 q4
          simp only [Option.some.injEq, Prod.mk.injEq] at h
          obtain ⟨rfl, rfl⟩ := h
          have := Nat.eq_of_beq_eq_true q3
          refine ⟨by omega, _, _, ?_, rfl⟩
          have hb := bnd_spec (n := L.length) (c := L.length) h1 h2 (by rw [q4]; exact hc)
          rw [q4] at hb
          exact hb
        · cases h
      · rename_i sz L q hx
        rw [opO_look hx]
        split at h
        · rename_i q3 q4
          simp only [Option.some.injEq, Prod.mk.injEq] at h
          obtain ⟨rfl, rfl⟩ := h
          have := Nat.eq_of_beq_eq_true q3
          refine ⟨by omega, _, _, ?_, rfl⟩
          have hb := bnd_spec (n := q) (c := L.length) h1 h2 (by rw [q4]; exact hc)
          rw [q4] at hb
          exact hb
        · cases h
      · rename_i m off len cm hx
        rw [opO_look hx]
        simp only [Option.some.injEq, Prod.mk.injEq] at h
        obtain ⟨rfl, rfl⟩ := h
        have hb := bnd_spec h1 h2 hc.1
        exact ⟨_, _, hb, by rw [hc.2]; simp, .inr hc.2⟩
      · rename_i hx
        rw [opO_look hx]
        simp only [Option.some.injEq, Prod.mk.injEq] at h
        obtain ⟨rfl, rfl⟩ := h
        exact ⟨_, _, bnd_spec h1 h2 hc, rfl⟩
      · cases h
  · cases h
end Go.Abs

/-
  Steps of operations on states told by lists.
-/
namespace Go.Abs
open Go

def evP0 (T : TT) (ex : Bool) (fl : FL) (op : Op) : Option (AVal × Prop) :=
  match op with
  | .move x => match opO fl x with | some v => some (v, True) | none => none
  | .assign x => match opO fl x with | some v => some (v, True) | none => none
  | .pick c a b => match opO fl c with
    | some (.c (.sc (.bool true))) => match opO fl a with | some v => some (v, True) | none => none
    | some (.c (.sc (.bool false))) => match opO fl b with | some v => some (v, True) | none => none
    | _ => none
  | .nilCheck x => match opO fl x with
    | some (.c (.ptr m off)) => some (.c (.ptr m off), True)
    | some (.c (.pim cs)) => some (.c (.pim cs), True)
    | some (.fn f cs) => some (.fn f cs, True)
    | _ => none
  | .binOp op t x y _ => match opO fl x, opO fl y with
    | some (.c (.sc (.bool a))), some (.c (.sc (.bool b))) => match undT T t with
      | some .bool => match op with
        | .eql => some (bvl (a == b), True)
        | .neq => some (bvl (a != b), True)
        | _ => none
      | _ => none
    | some x, some y => binF ex op x y
    | _, _ => none
  | .unOp op _ x => match opO fl x with
    | some x => unF ex op x
    | none => none
  | .convert s d x => match opO fl x, undT T s, undT T d with
    | some (.c (.sc (.int _ n))), some _, some (.int k) => resI ex k n True
    | _, _, _ => none
  | .fieldAddr s x f => match undT T s with
    | some (.struct fs) => match fs[f]? with
      | some fd => match celT T fd.type with
        | 0 => none
        | _ => match opO fl x with
          | some (.c (.ptr m off)) => some (.c (.ptr m (off + fd.offset)), True)
          | some (.c (.pim cs)) => some (.c (.pim (cs.drop fd.offset)), True)
          | _ => none
      | none => none
    | _ => none
  | .field s x f => match undT T s with
    | some (.struct fs) => match fs[f]? with
      | some fd => match opO fl x with
        | some (.agg cs) => match agT T fd.type with
          | some true => match celT T fd.type with
            | 0 => none
            | n => some (.agg ((cs.drop fd.offset).take n), True)
          | some false => match cs[fd.offset]? with
            | some y => some (.c y, True)
            | none => none
          | none => none
        | _ => none
      | none => none
    | _ => none
  | .indexAddr t x i => match undT T t with
    | some (.slice e) => match celT T e with
      | 0 => none
      | 1 => match opO fl x, opO fl i with
        | some (.c (.ints k L)), some (.c (.sc (.int _ j))) => some (.c (.pim [.sc (.int k (L.getD j.toNat 0))]), 0 ≤ j ∧ j < L.length)
        | some (.c (.intc k L n)), some (.c (.sc (.int _ j))) => some (.c (.pim [.sc (.int k (L.getD j.toNat 0))]), 0 ≤ j ∧ j < n)
        | some (.c (.win m off len _)), some (.c (.sc (.int _ j))) => some (.c (.ptr m (off + j.toNat)), 0 ≤ j ∧ j < len)
        | some (.c (.seq sz L)), some (.c (.sc (.int _ j))) => match Nat.beq sz 1 with
          | true => some (.c (.pim (L.getD j.toNat [])), 0 ≤ j ∧ j < L.length)
          | false => none
        | some (.c (.seqc sz L q)), some (.c (.sc (.int _ j))) => match Nat.beq sz 1 with
          | true => some (.c (.pim (L.getD j.toNat [])), 0 ≤ j ∧ j < q)
          | false => none
        | some (.accv m q), some (.c (.sc (.int _ j))) => some (.accp m j.toNat, 0 ≤ j ∧ j < q)
        | _, _ => none
      | n => match opO fl x, opO fl i with
        | some (.c (.seq sz L)), some (.c (.sc (.int _ j))) => match Nat.beq sz n with
          | true => some (.c (.pim (L.getD j.toNat [])), 0 ≤ j ∧ j < L.length)
          | false => none
        | some (.c (.seqc sz L q)), some (.c (.sc (.int _ j))) => match Nat.beq sz n with
          | true => some (.c (.pim (L.getD j.toNat [])), 0 ≤ j ∧ j < q)
          | false => none
        | some (.accv m q), some (.c (.sc (.int _ j))) => some (.accp m (j.toNat * n), 0 ≤ j ∧ j < q)
        | some (.c (.win m off len _)), some (.c (.sc (.int _ j))) => some (.c (.ptr m (off + j.toNat * n)), 0 ≤ j ∧ j < len)
        | _, _ => none
    | some (.array n e) => match celT T e with
      | 1 => match opO fl x, opO fl i with
        | some (.c (.pim cs)), some (.c (.sc (.int _ j))) => some (.c (.pim (cs.drop j.toNat)), 0 ≤ j ∧ j < n)
        | _, _ => none
      | _ => none
    | _ => none
  | .slice t x lo hi mx => sliceF T fl t x lo hi mx
  | .extract x i => match opO fl x with
    | some (.tup xs) => match xs[i]? with
      | some (.c y) => some (.c y, True)
      | some (.agg y) => some (.agg y, True)
      | some (.fn f y) => some (.fn f y, True)
      | some (.accv m q) => some (.accv m q, True)
      | _ => none
    | _ => none
  | .call c => match c.callee with
    | .builtin b => match b, c.args.toList, c.argTypes.toList with
      | .len, [x], [t] => match undT T t, opO fl x with
        | some (.slice _), some v => match lenF v with | some r => some (r, True) | none => none
        | _, _ => none
      | .min, [x, y], _ => match opO fl x, opO fl y with
        | some (.c (.sc (.int k a))), some (.c (.sc (.int _ b))) => some (ivl k (if b < a then b else a), True)
        | _, _ => none
      | .max, [x, y], _ => match opO fl x, opO fl y with
        | some (.c (.sc (.int k a))), some (.c (.sc (.int _ b))) => some (ivl k (if a < b then b else a), True)
        | _, _ => none
      | .min, [x, y, z], _ => match opO fl x, opO fl y, opO fl z with
        | some (.c (.sc (.int k a))), some (.c (.sc (.int _ b))), some (.c (.sc (.int _ c))) => some (ivl k (if c < (if b < a then b else a) then c else (if b < a then b else a)), True)
        | _, _, _ => none
      | _, _, _ => none
    | _ => none
  | _ => none

def fbinF (op : BinOp) : FX → FX → Option AVal
  | .f a, .f b => match op with
    | .add => some (fv (fadd a b))
    | .sub => some (fv (fsub a b))
    | .mul => some (fv (fmul a b))
    | .quo => some (fv (fquo a b))
    | .eql => some (bvl (fcmp .eql a b))
    | .neq => some (bvl (fcmp .neq a b))
    | .lss => some (bvl (fcmp .lss a b))
    | .leq => some (bvl (fcmp .leq a b))
    | .gtr => some (bvl (fcmp .gtr a b))
    | .geq => some (bvl (fcmp .geq a b))
    | _ => none
  | .z a b, .z c d => match op with
    | .add => some (zv (fadd a c) (fadd b d))
    | .sub => some (zv (fsub a c) (fsub b d))
    | .eql => some (bvl (fcmp .eql a c && fcmp .eql b d))
    | .neq => some (bvl (!(fcmp .eql a c && fcmp .eql b d)))
    | _ => none
  | _, _ => none
theorem fbinF_spec {op : BinOp} {x y : FX} {v : AVal} (h : fbinF op x y = some v) : fbinE op (.c (.fx x)) (.c (.fx y)) v := by
  cases x <;> cases y <;> cases op <;> simp only [fbinF] at h <;> first | (cases h; done) | exact (Option.some.inj h).symm | exact ⟨rfl, (Option.some.inj h).symm⟩
def evF (T : TT) (fl : FL) (op : Op) : Option AVal :=
  match op with
  | .binOp op _ x y _ => match opO fl x, opO fl y with
    | some (.c (.fx a)), some (.c (.fx b)) => fbinF op a b
    | _, _ => none
  | .unOp .neg _ x => match opO fl x with
    | some (.c (.fx (.f a))) => some (fv (fneg a))
    | some (.c (.fx (.z a b))) => some (zv (fneg a) (fneg b))
    | _ => none
  | .convert s d x => match opO fl x, undT T s, undT T d with
    | some (.c (.sc (.int _ n))), some _, some (.float .f64) => some (fv (some (FloatKind.f64.nearest n)))
    | some (.c (.fx (.f a))), some (.float .f64), some (.float .f64) => some (fv a)
    | _, _, _ => none
  | .call c => match c.callee with
    | .builtin b => match b, c.args.toList with
      | .complex, [x, y] => match opO fl x, opO fl y with
        | some (.c (.fx (.f a))), some (.c (.fx (.f b))) => some (zv a b)
        | _, _ => none
      | .real, [x] => match opO fl x with
        | some (.c (.fx (.z a _))) => some (fv a)
        | _ => none
      | .imag, [x] => match opO fl x with
        | some (.c (.fx (.z _ b))) => some (fv b)
        | _ => none
      | _, _ => none
    | _ => none
  | _ => none
def evP (T : TT) (ex : Bool) (fl : FL) (op : Op) : Option (AVal × Prop) :=
  match evF T fl op with
  | some v => some (v, True)
  | none => evP0 T ex fl op

theorem len_spec {P : Program} {t e : TypeId} {x v : AVal} (hu : P.underlying t = some (.slice e)) (h : lenF x = some v) : lenE P t x v := by
  refine ⟨⟨e, hu⟩, ?_⟩
  unfold lenF at h
  split at h <;> first | exact (Option.some.inj h).symm | cases h

section
variable {P : Program} {T : TT} {mu : FuncId → Bool} {N : Nat} {ops : Array Oper} {fl : FL} {S : Store} {K : St → Prop}

theorem evP0_sound (hT : TOk P T) {ex : Bool} {op : Op} {v : AVal} {C : Prop} (h : evP0 T ex fl op = some (v, C)) (hc : C) : PE0 P (look (lk' fl)) op v := by
  unfold evP0 at h
  split at h
  · split at h
    · rename_i hx
      simp only [Option.some.injEq, Prod.mk.injEq] at h
      simp only [PE0, opO_look hx, h.1]
    · cases h
  · split at h
    · rename_i hx
      simp only [Option.some.injEq, Prod.mk.injEq] at h
      simp only [PE0, opO_look hx, h.1]
    · cases h
  · split at h
    · rename_i hc
      split at h
      · rename_i hx
        simp only [Option.some.injEq, Prod.mk.injEq] at h
        simp only [PE0, opO_look hc, if_true, opO_look hx, h.1]
      · cases h
    · rename_i hc
      split at h
      · rename_i hx
        simp only [Option.some.injEq, Prod.mk.injEq] at h
        simp [PE0, opO_look hc, opO_look hx, h.1]
      · cases h
    · cases h
  · split at h
    all_goals first
      | (rename_i hx
         simp only [Option.some.injEq, Prod.mk.injEq] at h
         obtain ⟨rfl, -⟩ := h
         simp only [PE0, opO_look hx])
      | cases h
  · split at h
    · rename_i hx hy
      simp only [PE0, opO_look hx, opO_look hy]
      split at h
      · rename_i hu
        split at h
        · simp only [Option.some.injEq, Prod.mk.injEq] at h
          exact ⟨hT.und hu, h.1.symm⟩
        · simp only [Option.some.injEq, Prod.mk.injEq] at h
          exact ⟨hT.und hu, h.1.symm⟩
        · cases h
      · cases h
    · rename_i _ hx hy
      simp only [PE0, opO_look hx, opO_look hy]
      exact binF_spec h hc
    · cases h
  · split at h
    · rename_i hx
      simp only [PE0, opO_look hx]
      exact unF_spec h hc
    · cases h
  · split at h
    · rename_i hx hs hd
      simp only [PE0, opO_look hx, convE]
      exact ⟨by rw [hT.und hs]; simp, _, hT.und hd, (resI_spec h hc).2⟩
    · cases h
  · split at h
    · rename_i fs hu
      split at h
      · rename_i fd hf
        split at h
        · cases h
        · rename_i n hn
          split at h
          all_goals first
            | (rename_i hx
               simp only [Option.some.injEq, Prod.mk.injEq] at h
               exact ⟨fs, fd, hT.und hu, hf, by rw [hT.cel (t := fd.type) rfl hn]; exact hn, by simp only [opO_look hx]; exact h.1.symm⟩)
            | (rename_i hx
               simp only [Option.some.injEq, Prod.mk.injEq] at h
               exact ⟨fs, fd, hT.und hu, hf, by rw [hT.cel (t := fd.type) rfl hn]; exact hn, by simp only [opO_look hx]; exact h.1.symm⟩)
            | cases h
      · cases h
    · cases h
  · split at h
    · rename_i fs hu
      split at h
      · rename_i fd hf
        split at h
        · rename_i cs hx
          refine ⟨fs, fd, hT.und hu, hf, ?_⟩
          simp only [opO_look hx]
          split at h
          · rename_i ha
            split at h
            · cases h
            · rename_i hn
              simp only [Option.some.injEq, Prod.mk.injEq] at h
              have hn' := hT.cel (t := fd.type) rfl hn
              exact .inl ⟨hT.ag ha, by rw [hn']; exact hn, by rw [hn']; exact h.1.symm⟩
          · rename_i ha
            split at h
            · rename_i y hy
              simp only [Option.some.injEq, Prod.mk.injEq] at h
              exact .inr ⟨hT.ag ha, y, hy, h.1.symm⟩
            · cases h
          · cases h
        · cases h
      · cases h
    · cases h
  · split at h
    · rename_i e hu
      split at h
      · cases h
      · rename_i hce
        have hce := hT.cel hce (by decide)
        split at h
        · rename_i hx hy
          simp only [Option.some.injEq, Prod.mk.injEq] at h
          obtain ⟨rfl, rfl⟩ := h
          exact .inl ⟨e, hT.und hu, by omega, by simp only [opO_look hx, opO_look hy]; exact ⟨hce, hc.1, hc.2, trivial⟩⟩
        · rename_i hx hy
          simp only [Option.some.injEq, Prod.mk.injEq] at h
          obtain ⟨rfl, rfl⟩ := h
          exact .inl ⟨e, hT.und hu, by omega, by simp only [opO_look hx, opO_look hy]; exact ⟨hce, hc.1, hc.2, trivial⟩⟩
        · rename_i hx hy
          simp only [Option.some.injEq, Prod.mk.injEq] at h
          obtain ⟨rfl, rfl⟩ := h
          exact .inl ⟨e, hT.und hu, by omega, by simp only [opO_look hx, opO_look hy]; exact ⟨hc.1, hc.2, by rw [hce, Nat.mul_one]⟩⟩
        · rename_i hx hy
          split at h
          · rename_i hq
            simp only [Option.some.injEq, Prod.mk.injEq] at h
            obtain ⟨rfl, rfl⟩ := h
            have := Nat.eq_of_beq_eq_true hq
            exact .inl ⟨e, hT.und hu, by omega, by simp only [opO_look hx, opO_look hy]; exact ⟨by omega, hc.1, hc.2, trivial⟩⟩
          · cases h
        · rename_i hx hy
          split at h
          · rename_i hq
            simp only [Option.some.injEq, Prod.mk.injEq] at h
            obtain ⟨rfl, rfl⟩ := h
            have := Nat.eq_of_beq_eq_true hq
            exact .inl ⟨e, hT.und hu, by omega, by simp only [opO_look hx, opO_look hy]; exact ⟨by omega, hc.1, hc.2, trivial⟩⟩
          · cases h
        · rename_i hx hy
          simp only [Option.some.injEq, Prod.mk.injEq] at h
          obtain ⟨rfl, rfl⟩ := h
          exact .inl ⟨e, hT.und hu, by omega, by simp only [opO_look hx, opO_look hy]; exact ⟨hc.1, hc.2, by rw [hce, Nat.mul_one]⟩⟩
        · cases h
      · rename_i n hn0 hn1
        have hn2 := hT.cel (t := e) rfl hn0
        split at h
        · rename_i hx hy
          split at h
          · rename_i hq
            simp only [Option.some.injEq, Prod.mk.injEq] at h
            obtain ⟨rfl, rfl⟩ := h
            have := Nat.eq_of_beq_eq_true hq
            exact .inl ⟨e, hT.und hu, by rw [hn2]; exact hn0, by simp only [opO_look hx, opO_look hy]; exact ⟨by omega, hc.1, hc.2, trivial⟩⟩
          · cases h
        · rename_i hx hy
          split at h
          · rename_i hq
            simp only [Option.some.injEq, Prod.mk.injEq] at h
            obtain ⟨rfl, rfl⟩ := h
            have := Nat.eq_of_beq_eq_true hq
            exact .inl ⟨e, hT.und hu, by rw [hn2]; exact hn0, by simp only [opO_look hx, opO_look hy]; exact ⟨by omega, hc.1, hc.2, trivial⟩⟩
          · cases h
        · rename_i hx hy
          simp only [Option.some.injEq, Prod.mk.injEq] at h
          obtain ⟨rfl, rfl⟩ := h
          exact .inl ⟨e, hT.und hu, by rw [hn2]; exact hn0, by simp only [opO_look hx, opO_look hy]; exact ⟨hc.1, hc.2, by rw [hn2]⟩⟩
        · rename_i hx hy
          simp only [Option.some.injEq, Prod.mk.injEq] at h
          obtain ⟨rfl, rfl⟩ := h
          exact .inl ⟨e, hT.und hu, by rw [hn2]; exact hn0, by simp only [opO_look hx, opO_look hy]; exact ⟨hc.1, hc.2, by rw [hn2]⟩⟩
        · cases h
    · rename_i n e hu
      split at h
      · rename_i hce
        have hce := hT.cel hce (by decide)
        split at h
        · rename_i hx hy
          simp only [Option.some.injEq, Prod.mk.injEq] at h
          obtain ⟨rfl, rfl⟩ := h
          exact .inr ⟨n, e, hT.und hu, hce, by simp only [opO_look hx, opO_look hy]; exact ⟨hc.1, hc.2, trivial⟩⟩
        · cases h
      · cases h
    · cases h
  · exact sliceF_spec hT h hc
  · split at h
    · rename_i hx
      simp only [PE0, opO_look hx]
      split at h
      all_goals first
        | (rename_i hy
           simp only [Option.some.injEq, Prod.mk.injEq] at h
           rw [← h.1]
           exact ⟨hy, trivial⟩)
        | cases h
    · cases h
  · split at h
    · rename_i hb
      simp only [PE0, hb]
      split at h
      · rename_i ha ht
        split at h
        · rename_i hu hx
          split at h
          · rename_i r hr
            simp only [Option.some.injEq, Prod.mk.injEq] at h
            obtain ⟨rfl, rfl⟩ := h
            simp only [ha, ht, builtinE, opO_look hx]
            exact len_spec (hT.und hu) hr
          · cases h
        · cases h
      · rename_i ha
        split at h
        · rename_i hx hy
          simp only [Option.some.injEq, Prod.mk.injEq] at h
          simp only [ha, builtinE, List.map_cons, List.map_nil, opO_look hx, opO_look hy, minE]
          exact h.1.symm
        · cases h
      · rename_i ha
        split at h
        · rename_i hx hy
          simp only [Option.some.injEq, Prod.mk.injEq] at h
          simp only [ha, builtinE, List.map_cons, List.map_nil, opO_look hx, opO_look hy, minE]
          exact h.1.symm
        · cases h
      · rename_i ha
        split at h
        · rename_i hx hy hz
          simp only [Option.some.injEq, Prod.mk.injEq] at h
          simp only [ha, builtinE, List.map_cons, List.map_nil, opO_look hx, opO_look hy, opO_look hz, minE]
          exact h.1.symm
        · cases h
      · cases h
    · cases h
  · cases h

theorem evF_sound (hT : TOk P T) {op : Op} {v : AVal} (h : evF T fl op = some v) : FE P (look (lk' fl)) op v := by
  unfold evF at h
  split at h
  · split at h
    · rename_i hx hy
      show fbinE _ _ _ _
      rw [opO_look hx, opO_look hy]
      exact fbinF_spec h
    · cases h
  · split at h
    · rename_i hx
      show funE _ _ _
      rw [opO_look hx]
      exact (Option.some.inj h).symm
    · rename_i hx
      show funE _ _ _
      rw [opO_look hx]
      exact (Option.some.inj h).symm
    · cases h
  · split at h
    · rename_i hx hs hd
      show fconvE P _ _ _ _
      rw [opO_look hx]
      exact ⟨by rw [hT.und hs]; simp, hT.und hd, (Option.some.inj h).symm⟩
    · rename_i hx hs hd
      show fconvE P _ _ _ _
      rw [opO_look hx]
      exact ⟨hT.und hs, .inl ⟨hT.und hd, (Option.some.inj h).symm⟩⟩
    · cases h
  · split at h
    · rename_i hb
      simp only [FE, hb]
      split at h
      · rename_i ha
        split at h
        · rename_i hx hy
          simp only [ha, fbuiltE, List.map_cons, List.map_nil, opO_look hx, opO_look hy]
          exact (Option.some.inj h).symm
        · cases h
      · rename_i ha
        split at h
        · rename_i hx
          simp only [ha, fbuiltE, List.map_cons, List.map_nil, opO_look hx]
          exact (Option.some.inj h).symm
        · cases h
      · rename_i ha
        split at h
        · rename_i hx
          simp only [ha, fbuiltE, List.map_cons, List.map_nil, opO_look hx]
          exact (Option.some.inj h).symm
        · cases h
      · cases h
    · cases h
  · cases h
theorem evP_sound (hT : TOk P T) {ex : Bool} {op : Op} {v : AVal} {C : Prop} (h : evP T ex fl op = some (v, C)) (hc : C) : PE P (look (lk' fl)) op v := by
  unfold evP at h
  split at h
  · rename_i hv
    simp only [Option.some.injEq, Prod.mk.injEq] at h
    obtain ⟨rfl, -⟩ := h
    exact .inr (evF_sound hT hv)
  · exact .inl (evP0_sound hT h hc)

def Stp (P : Program) (mu : FuncId → Bool) (ops : Array Oper) (o : Oper) (st : St) (K : St → Prop) : Prop := ∃ st', aStep P mu ops o st st' ∧ K st'

theorem aOps_cons {o : Oper} {rest : List Oper} {Q : St → Prop} {st : St} (h : Stp P mu ops o st (aOps P mu ops rest Q)) : aOps P mu ops (o :: rest) Q st := h

theorem evP_plain (hT : TOk P T) {ex : Bool} {op : Op} {v : AVal} {C : Prop} {S' : Store} {d : Option Nat} {ty : TypeId} {pos : String} {after : Array Edge} {g : Option (Nat × Bool)} (h : evP T ex fl op = some (v, C)) (hc : C) :
    aExec P mu ⟨d, op, ty, pos, after, g⟩ ⟨lk' fl, S'⟩ ⟨putF (lk' fl) d v, S'⟩ := by
  have hp := evP_sound hT h hc
  cases op with
  | call c =>
    obtain ⟨cl, args, tys⟩ := c
    cases cl with
    | builtin b =>
      have : ¬ kindC mu ⟨.builtin b, args, tys⟩ = .app := by
        cases b <;> simp [kindC] <;> simp [evP, evF, evP0] at h
      simp only [aExec, if_neg this]
      exact ⟨v, S', ⟨hp, rfl⟩, rfl⟩
    | value x => simp [evP, evF, evP0] at h
    | invoke r m => simp [evP, evF, evP0] at h
  | load _ _ => simp [evP, evF, evP0] at h
  | store _ _ _ => simp [evP, evF, evP0] at h
  | alloc _ => simp [evP, evF, evP0] at h
  | box _ _ => simp [evP, evF, evP0] at h
  | buildSlice _ _ _ => simp [evP, evF, evP0] at h
  | makeSlice _ _ _ => simp [evP, evF, evP0] at h
  | _ => exact ⟨v, S', ⟨hp, rfl⟩, rfl⟩

theorem stp_pure (hT : TOk P T) (ex : Bool) {op : Op} {v : AVal} {C : Prop} {S' : Store} {d : Nat} {ty : TypeId} {pos : String} {after : Array Edge} (h : evP T ex fl op = some (v, C)) (hc : C) (k : K ⟨lk' ((d, v) :: fl), S'⟩) :
    Stp P mu ops ⟨some d, op, ty, pos, after, none⟩ ⟨lk' fl, S'⟩ K :=
  ⟨_, evP_plain hT h hc, by rw [putF_lk]; exact k⟩

theorem stp_sind (hT : TOk P T) {x i : Operand} {t : Nat} {s : ByteArray} {k : IntKind} {j : Int} {b : UInt8} {S' : Store} {d : Nat} {ty : TypeId} {pos : String} {after : Array Edge} (hu : undT T t = some .string)
    (hx : opO fl x = some (.c (.sc (.string s)))) (hi : opO fl i = some (ivl k j)) (h0 : 0 ≤ j) (hb : s[j.toNat]? = some b) (kk : K ⟨lk' ((d, ivl .u8 b.toNat) :: fl), S'⟩) :
    Stp P mu ops ⟨some d, .index t x i, ty, pos, after, none⟩ ⟨lk' fl, S'⟩ K :=
  ⟨⟨putF (lk' fl) (some d) (ivl .u8 b.toNat), S'⟩, ⟨_, S', ⟨.inl (by simp only [PE0]; exact ⟨hT.und hu, by rw [opO_look hx, opO_look hi]; exact ⟨h0, b, hb, rfl⟩⟩), rfl⟩, rfl⟩, by rw [putF_lk]; exact kk⟩

theorem stp_cmp {op : BinOp} {t0 T' : TypeId} {x y : Operand} {k k' : IntKind} {a b : Int} {p : Prop} {S' : Store} {d : Nat} {ty : TypeId} {pos : String} {after : Array Edge}
    (hx : opO fl x = some (ivl k a)) (hy : opO fl y = some (ivl k' b)) (hk : kEq k k' = true) (hp : cmpP op a b = some p)
    (h1 : p → K ⟨lk' ((d, bvl true) :: fl), S'⟩) (h2 : ¬ p → K ⟨lk' ((d, bvl false) :: fl), S'⟩) : Stp P mu ops ⟨some d, .binOp op t0 x y T', ty, pos, after, none⟩ ⟨lk' fl, S'⟩ K := by
  have key : ∀ t : Bool, (t = true ↔ p) → K ⟨lk' ((d, bvl t) :: fl), S'⟩ := fun t ht => by
    cases t with
    | true => exact h1 (ht.1 rfl)
    | false => exact h2 (fun q => by have := ht.2 q; cases this)
  have ek := kEq_eq hk
  have mk : ∀ t : Bool, isShift op = false → intE op k a b (bvl t) → (t = true ↔ p) → Stp P mu ops ⟨some d, .binOp op t0 x y T', ty, pos, after, none⟩ ⟨lk' fl, S'⟩ K := fun t hs ht hq =>
    ⟨⟨putF (lk' fl) (some d) (bvl t), S'⟩, ⟨bvl t, S', ⟨.inl (by simp only [PE0, opO_look hx, opO_look hy, binE, hs]; exact ⟨ek, ht⟩), rfl⟩, rfl⟩, by rw [putF_lk]; exact key t hq⟩
  cases op <;> simp only [cmpP] at hp <;> (first | cases hp; done | (obtain rfl := Option.some.inj hp))
  case eql => exact mk (a == b) rfl rfl (by simp)
  case neq => exact mk (a != b) rfl rfl (by simp)
  case lss => exact mk (decide (a < b)) rfl rfl (by simp)
  case leq => exact mk (decide (a ≤ b)) rfl rfl (by simp)
  case gtr => exact mk (decide (a > b)) rfl rfl (by simp)
  case geq => exact mk (decide (a ≥ b)) rfl rfl (by simp)

/-! guards -/
variable {dst : Option Nat} {op : Op} {ty : TypeId} {pos : String} {after : Array Edge}
theorem stp_gT {j t : Nat} {want : Bool} {S' : Store} (hg : (ops[j]?).bind (·.dst) = some t) (hb : lkO fl t = some (bvl want)) (k : Stp P mu ops ⟨dst, op, ty, pos, after, none⟩ ⟨lk' fl, S'⟩ K) :
    Stp P mu ops ⟨dst, op, ty, pos, after, some (j, want)⟩ ⟨lk' fl, S'⟩ K := by
  obtain ⟨st', h1, h2⟩ := k
  have hy : yA ops (lk' fl) j = some (some want) := by simp only [yA, hg, lkO_look hb]
  refine ⟨st', ?_, h2⟩
  simp only [aStep, hy]
  exact ⟨fun _ => h1, fun q => absurd rfl q⟩
theorem stp_gF {j t d : Nat} {b want : Bool} {S' : Store} (hg : (ops[j]?).bind (·.dst) = some t) (hb : lkO fl t = some (bvl b)) (hne : b = !want) (k : K ⟨lk' ((d, .c (.sc undef)) :: fl), S'⟩) :
    Stp P mu ops ⟨some d, op, ty, pos, after, some (j, want)⟩ ⟨lk' fl, S'⟩ K := by
  have hy : yA ops (lk' fl) j = some (some b) := by simp only [yA, hg, lkO_look hb]
  refine ⟨_, ?_, by rw [← putF_lk] at k; exact k⟩
  simp only [aStep, hy]
  exact ⟨fun q => absurd hne (by rw [q]; simp), fun _ => trivial⟩
theorem stp_gU {j t d : Nat} {vs : Array Value} {want : Bool} {S' : Store} (hg : (ops[j]?).bind (·.dst) = some t) (hb : lkO fl t = some (.c (.sc (.tuple vs)))) (k : K ⟨lk' ((d, .c (.sc undef)) :: fl), S'⟩) :
    Stp P mu ops ⟨some d, op, ty, pos, after, some (j, want)⟩ ⟨lk' fl, S'⟩ K := by
  have hy : yA ops (lk' fl) j = some none := by simp only [yA, hg, lkO_look hb]
  refine ⟨_, ?_, by rw [← putF_lk] at k; exact k⟩
  simp only [aStep, hy]
end
end Go.Abs

/-
  Steps that read and write the store, calls, appends.
-/
namespace Go.Abs
open Go

def headL : List Leaf → Option Cell
  | .sc v :: _ => some (.sc v)
  | .ints k L :: _ => some (.ints k L)
  | .intc k L n :: _ => some (.intc k L n)
  | .pim cs :: _ => some (.pim cs)
  | .seq sz L :: _ => some (.seq sz L)
  | .seqc sz L n :: _ => some (.seqc sz L n)
  | .fx x :: _ => some (.fx x)
  | [] => none
theorem headL_spec {cs : List Leaf} {y : Cell} (h : headL cs = some y) : ∃ x, cs[0]? = some x ∧ y = x.cell := by
  match cs, h with
  | .sc v :: _, h => exact ⟨_, rfl, (Option.some.inj h).symm⟩
  | .ints k L :: _, h => exact ⟨_, rfl, (Option.some.inj h).symm⟩
  | .intc k L n :: _, h => exact ⟨_, rfl, (Option.some.inj h).symm⟩
  | .pim cs :: _, h => exact ⟨_, rfl, (Option.some.inj h).symm⟩
  | .seq sz L :: _, h => exact ⟨_, rfl, (Option.some.inj h).symm⟩
  | .seqc sz L n :: _, h => exact ⟨_, rfl, (Option.some.inj h).symm⟩
  | .fx x :: _, h => exact ⟨_, rfl, (Option.some.inj h).symm⟩

def objO : AObj → Nat → Option (Cell × Prop)
  | .cells _ cs, off => match cs[off]? with
    | some y => some (y, True)
    | none => none
  | .ints _ k L, off => some (.sc (.int k (L.getD off 0)), off < L.length)
  | .acc .., _ => none
  | .fix _, _ => none
  | .row _ cs, off => match cs[off]? with
    | some y => some (y, True)
    | none => none

def solidF : Cell → Bool
  | .sc v => v.oneCell'
  | .junk => false
  | _ => true
theorem solidF_spec {x : Cell} (h : solidF x = true) : x.solid := by cases x <;> first | trivial | exact h | cases h

def setL : List Cell → Nat → Cell → Option (List Cell)
  | [], _, _ => none
  | _ :: cs, 0, y => some (y :: cs)
  | c :: cs, n + 1, y => match setL cs n y with
    | some r => some (c :: r)
    | none => none
theorem setL_spec : ∀ {cs : List Cell} {n : Nat} {y : Cell} {out : List Cell}, setL cs n y = some out → n + 1 ≤ cs.length ∧ out = spl cs n [y]
  | c :: cs, 0, y, out, h => by simp only [setL, Option.some.injEq] at h; subst h; simp [spl]
  | c :: cs, n + 1, y, out, h => by
    simp only [setL] at h
    split at h
    · rename_i r hr
      obtain ⟨h1, h2⟩ := setL_spec hr
      simp only [Option.some.injEq] at h
      subst h
      refine ⟨by simp; omega, ?_⟩
      subst h2
      simp [spl, List.take_succ_cons]
    · cases h

def putO (T : TT) (t : TypeId) (o : AObj) (off : Nat) (x : AVal) : Option (AObj × Prop) :=
  match o with
  | .ints ty k L => match x, celT T t with
    | .c (.sc (.int k' y)), 1 => match kEq k k' with
      | true => some (.ints ty k (L.set off y), off < L.length)
      | false => none
    | _, _ => none
  | .cells ty cs => match x, celT T t with
    | .c y, 1 => match solidF y, setL cs off y with
      | true, some cs' => some (.cells ty cs', True)
      | _, _ => none
    | .agg ys, n + 1 => some (.cells ty (spl cs off ys), ys.length = n + 1 ∧ off + ys.length ≤ cs.length)
    | _, _ => none
  | .acc .. => none
  | .fix _ => none
  | .row ty cs => match x, celT T t with
    | .c y, 1 => match solidF y with
      | true => some (.row ty (cs.set off y), off < cs.length)
      | false => none
    | _, _ => none

def normC : List Cell → Option (List Cell)
  | [] => some []
  | .sc v :: xs => match normC xs, v.oneCell' with
    | some r, true => some (.sc v :: r)
    | _, _ => none
  | .fx x :: xs => match normC xs with
    | some r => some (.fx x :: r)
    | none => none
  | _ => none
theorem normC_spec : ∀ {xs ys : List Cell}, normC xs = some ys → ys = xs ∧ ∀ x ∈ xs, x.solid
  | [], ys, h => by simp only [normC, Option.some.injEq] at h; subst h; simp
  | .sc v :: xs, ys, h => by
    simp only [normC] at h
    split at h
    · rename_i r hr hv
      obtain ⟨h1, h2⟩ := normC_spec hr
      simp only [Option.some.injEq] at h
      subst h; subst h1
      refine ⟨rfl, fun x hx => ?_⟩
      rcases List.mem_cons.1 hx with rfl | hx
      · exact hv
      · exact h2 x hx
    · cases h
  | .fx v :: xs, ys, h => by
    simp only [normC] at h
    split at h
    · rename_i r hr
      obtain ⟨h1, h2⟩ := normC_spec hr
      simp only [Option.some.injEq] at h
      subst h; subst h1
      refine ⟨rfl, fun x hx => ?_⟩
      rcases List.mem_cons.1 hx with rfl | hx
      · exact trivial
      · exact h2 x hx
    · cases h

def zerF (T : TT) (e : TypeId) : Option (List Cell) :=
  match zerT T e with
  | some z => normC (z.cells.toList.map cellC)
  | none => none
theorem zerF_spec {P : Program} {T : TT} (hT : TOk P T) {e : TypeId} {z : List Cell} (h : zerF T e = some z) : zeroCells P e = some z ∧ ∀ x ∈ z, x.solid := by
  unfold zerF at h
  split at h
  · rename_i z' hz
    obtain ⟨h1, h2⟩ := normC_spec h
    subst h1
    exact ⟨by simp only [zeroCells, hT.zer hz, Option.map_some], h2⟩
  · cases h

def intsPart (fl : FL) : List (Nat × Operand) → Nat → Option (IntKind × List Int)
  | [], _ => none
  | [(i, x)], n => match Nat.beq i n, opO fl x with
    | true, some (.c (.sc (.int k a))) => some (k, [a])
    | _, _ => none
  | (i, x) :: r, n => match Nat.beq i n, opO fl x, intsPart fl r (n + 1) with
    | true, some (.c (.sc (.int k a))), some (k', L) => match kEq k k' with
      | true => some (k, a :: L)
      | false => none
    | _, _, _ => none

section
variable {P : Program} {T : TT} {mu : FuncId → Bool} {N : Nat} {ops : Array Oper} {fl : FL} {sl : SL} {S : Store} {K : St → Prop}
  {d : Nat} {ty : TypeId} {pos : String} {after : Array Edge}

theorem stp_loadp (hT : TOk P T) {t : TypeId} {x : Operand} {cs : List Leaf} {y : Cell} {S' : Store} (hx : opO fl x = some (.c (.pim cs))) (ha : agT T t = some false) (hy : headL cs = some y) (k : K ⟨lk' ((d, .c y) :: fl), S'⟩) :
    Stp P mu ops ⟨some d, .load t x, ty, pos, after, none⟩ ⟨lk' fl, S'⟩ K := by
  obtain ⟨l, h1, rfl⟩ := headL_spec hy
  exact ⟨_, ⟨.c l.cell, S', ⟨by rw [opO_look hx]; exact .inr ⟨hT.ag ha, l, h1, rfl⟩, rfl⟩, rfl⟩, by rw [putF_lk]; exact k⟩

theorem stp_loadpa (hT : TOk P T) {t : TypeId} {x : Operand} {cs : List Leaf} {n : Nat} {S' : Store} (hx : opO fl x = some (.c (.pim cs))) (ha : agT T t = some true) (hn : celT T t = n + 1) (hl : n + 1 ≤ cs.length)
    (k : K ⟨lk' ((d, .agg ((cs.take (n + 1)).map Leaf.cell)) :: fl), S'⟩) :
    Stp P mu ops ⟨some d, .load t x, ty, pos, after, none⟩ ⟨lk' fl, S'⟩ K :=
  ⟨_, ⟨_, S', ⟨by rw [opO_look hx]; exact .inl ⟨hT.ag ha, by rw [hT.cel hn (by simp)]; simp, by rw [hT.cel hn (by simp)]; exact hl, by rw [hT.cel hn (by simp)]⟩, rfl⟩, rfl⟩, by rw [putF_lk]; exact k⟩

theorem stp_load (hT : TOk P T) {t : TypeId} {x : Operand} {m : Nm} {off : Nat} {o : AObj} {y : Cell} {C : Prop} (hx : opO fl x = some (.c (.ptr m off))) (ha : agT T t = some false) (hm : lkS sl m = some o) (hy : objO o off = some (y, C)) (hc : C)
    (k : K ⟨lk' ((d, .c y) :: fl), ov sl S⟩) : Stp P mu ops ⟨some d, .load t x, ty, pos, after, none⟩ ⟨lk' fl, ov sl S⟩ K := by
  refine ⟨_, ⟨.c y, ov sl S, ⟨?_, rfl⟩, rfl⟩, by rw [putF_lk]; exact k⟩
  rw [opO_look hx]
  refine ⟨o, ov_of hm, .inr ⟨hT.ag ha, y, ?_, rfl⟩⟩
  cases o with
  | cells ty cs =>
    simp only [objO] at hy
    split at hy
    · rename_i y' hy'; simp only [Option.some.injEq, Prod.mk.injEq] at hy; obtain ⟨rfl, -⟩ := hy; exact hy'
    · cases hy
  | ints ty k L =>
    simp only [objO, Option.some.injEq, Prod.mk.injEq] at hy
    obtain ⟨rfl, rfl⟩ := hy
    simp [objCell, List.getElem?_eq_getElem hc]
  | acc ty k L => cases hy
  | fix x => cases hy
  | row ty cs =>
    simp only [objO] at hy
    split at hy
    · rename_i y' hy'; simp only [Option.some.injEq, Prod.mk.injEq] at hy; obtain ⟨rfl, -⟩ := hy; exact hy'
    · cases hy

theorem stp_loada (hT : TOk P T) {t : TypeId} {x : Operand} {m : Nm} {off n : Nat} {ty' : TypeId} {cs : List Cell} (hx : opO fl x = some (.c (.ptr m off))) (ha : agT T t = some true) (hn : celT T t = n + 1) (hm : lkS sl m = some (.cells ty' cs))
    (hl : off + (n + 1) ≤ cs.length) (k : K ⟨lk' ((d, .agg ((cs.drop off).take (n + 1))) :: fl), ov sl S⟩) : Stp P mu ops ⟨some d, .load t x, ty, pos, after, none⟩ ⟨lk' fl, ov sl S⟩ K := by
  refine ⟨_, ⟨_, ov sl S, ⟨?_, rfl⟩, rfl⟩, by rw [putF_lk]; exact k⟩
  rw [opO_look hx]
  exact ⟨_, ov_of hm, .inl ⟨hT.ag ha, by rw [hT.cel hn (by simp)]; simp, ty', cs, rfl, by rw [hT.cel hn (by simp)]; exact hl, by rw [hT.cel hn (by simp)]⟩⟩

theorem stp_store (hT : TOk P T) {t : TypeId} {x y : Operand} {m : Nm} {off : Nat} {o o' : AObj} {v : AVal} {C : Prop} (hx : opO fl x = some (.c (.ptr m off))) (hy : opO fl y = some v) (hm : lkS sl m = some o) (ho : putO T t o off v = some (o', C)) (hc : C)
    (k : K ⟨lk' fl, ov ((m, o') :: sl) S⟩) : Stp P mu ops ⟨none, .store t x y, ty, pos, after, none⟩ ⟨lk' fl, ov sl S⟩ K := by
  refine ⟨⟨lk' fl, upd (ov sl S) m o'⟩, ⟨.c (.sc undef), _, ⟨?_, rfl⟩, rfl⟩, by rw [upd_ov]; exact k⟩
  rw [opO_look hx, opO_look hy]
  unfold putO at ho
  split at ho
  · rename_i ty kk L
    split at ho
    · rename_i k' y hn
      split at ho
      · rename_i hk
        simp only [Option.some.injEq, Prod.mk.injEq] at ho
        obtain ⟨rfl, rfl⟩ := ho
        obtain rfl := kEq_eq hk
        exact .inr (.inl ⟨ty, kk, L, y, ov_of hm, hT.cel hn (by simp), rfl, hc, rfl⟩)
      · cases ho
    · cases ho
  · rename_i ty cs
    split at ho
    · rename_i y hn
      split at ho
      · rename_i cs' hs hset
        have hn := hT.cel hn (by simp)
        simp only [Option.some.injEq, Prod.mk.injEq] at ho
        obtain ⟨rfl, rfl⟩ := ho
        obtain ⟨h1, rfl⟩ := setL_spec hset
        exact .inl ⟨ty, cs, ov_of hm, solidF_spec hs, by omega, by simp [AVal.cells, hn], by simpa [AVal.cells] using h1, rfl⟩
      · cases ho
    · rename_i ys n hn
      have hn := hT.cel hn (by simp)
      simp only [Option.some.injEq, Prod.mk.injEq] at ho
      obtain ⟨rfl, rfl⟩ := ho
      exact .inl ⟨ty, cs, ov_of hm, trivial, by omega, by simp [AVal.cells, hn, hc.1], hc.2, rfl⟩
    · cases ho
  · cases ho
  · cases ho
  · rename_i ty cs
    split at ho
    · rename_i y hn
      split at ho
      · rename_i hs
        simp only [Option.some.injEq, Prod.mk.injEq] at ho
        obtain ⟨rfl, rfl⟩ := ho
        exact .inr (.inr ⟨ty, cs, y, ov_of hm, hT.cel hn (by simp), rfl, solidF_spec hs, hc, rfl⟩)
      · cases ho
    · cases ho

def freeO : SL → Nat → Bool
  | [], _ => true
  | (.loc a, _) :: r, d => match Nat.beq a d with
    | true => false
    | false => freeO r d
  | (.fam (.loc a) _, _) :: r, d => match Nat.beq a d with
    | true => false
    | false => freeO r d
  | _ :: r, d => freeO r d
theorem freeO_spec {S : Store} : ∀ {sl : SL} {d : Nat}, freeO sl d = true → (ov sl (pushS S)) (.loc d) = none
  | [], d, _ => rfl
  | (.loc a, o) :: r, d, h => by
    simp only [freeO] at h
    split at h
    · cases h
    · rename_i e
      have : d ≠ a := fun q => by subst q; simp [Nat.beq_refl] at e
      have ih := freeO_spec (S := S) h
      simpa [ov, lkS, this] using ih
  | (.out a, o) :: r, d, h => by have ih := freeO_spec (S := S) (sl := r) h; simpa [ov, lkS] using ih
  | (.new, o) :: r, d, h => by have ih := freeO_spec (S := S) (sl := r) h; simpa [ov, lkS] using ih
  | (.fam (.loc a) i, o) :: r, d, h => by
    simp only [freeO] at h
    split at h
    · cases h
    · have ih := freeO_spec (S := S) (sl := r) h; simpa [ov, lkS] using ih
  | (.fam (.out a) i, o) :: r, d, h => by have ih := freeO_spec (S := S) (sl := r) h; simpa [ov, lkS] using ih
  | (.fam .new i, o) :: r, d, h => by have ih := freeO_spec (S := S) (sl := r) h; simpa [ov, lkS] using ih
  | (.fam (.fam a j) i, o) :: r, d, h => by have ih := freeO_spec (S := S) (sl := r) h; simpa [ov, lkS] using ih
theorem freeO_fam {S : Store} (i : Nat) : ∀ {sl : SL} {d : Nat}, freeO sl d = true → (ov sl (pushS S)) (.fam (.loc d) i) = none
  | [], d, _ => rfl
  | (.loc a, o) :: r, d, h => by
    simp only [freeO] at h
    split at h
    · cases h
    · have ih := freeO_fam i (S := S) h; simpa [ov, lkS] using ih
  | (.out a, o) :: r, d, h => by have ih := freeO_fam i (S := S) (sl := r) h; simpa [ov, lkS] using ih
  | (.new, o) :: r, d, h => by have ih := freeO_fam i (S := S) (sl := r) h; simpa [ov, lkS] using ih
  | (.fam (.loc a) j, o) :: r, d, h => by
    simp only [freeO] at h
    split at h
    · cases h
    · rename_i e
      have : d ≠ a := fun q => by subst q; simp [Nat.beq_refl] at e
      have ih := freeO_fam i (S := S) h
      simpa [ov, lkS, this] using ih
  | (.fam (.out a) j, o) :: r, d, h => by have ih := freeO_fam i (S := S) (sl := r) h; simpa [ov, lkS] using ih
  | (.fam .new j, o) :: r, d, h => by have ih := freeO_fam i (S := S) (sl := r) h; simpa [ov, lkS] using ih
  | (.fam (.fam a k) j, o) :: r, d, h => by have ih := freeO_fam i (S := S) (sl := r) h; simpa [ov, lkS] using ih

theorem stp_alloc (hT : TOk P T) {e : TypeId} {z : List Cell} (hz : zerF T e = some z) (hf : freeO sl d = true) (k : K ⟨lk' ((d, .c (.ptr (.loc d) 0)) :: fl), ov ((.loc d, .cells e z) :: sl) (pushS S)⟩) :
    Stp P mu ops ⟨some d, .alloc e, ty, pos, after, none⟩ ⟨lk' fl, ov sl (pushS S)⟩ K := by
  obtain ⟨h1, h2⟩ := zerF_spec hT hz
  exact ⟨_, ⟨_, _, ⟨d, .cells e z, rfl, freeO_spec hf, ⟨z, h1, h2, rfl, rfl⟩, rfl⟩, rfl⟩, by rw [putF_lk, upd_ov]; exact k⟩

theorem stp_box {e : TypeId} {x : Operand} {y : Cell} (hx : opO fl x = some (.c y)) (hs : solidF y = true) (hf : freeO sl d = true) (k : K ⟨lk' ((d, .c (.ptr (.loc d) 0)) :: fl), ov ((.loc d, .cells e [y]) :: sl) (pushS S)⟩) :
    Stp P mu ops ⟨some d, .box e x, ty, pos, after, none⟩ ⟨lk' fl, ov sl (pushS S)⟩ K :=
  ⟨_, ⟨_, _, ⟨d, .cells e [y], rfl, freeO_spec hf, ⟨by rw [opO_look hx]; exact solidF_spec hs, rfl, by rw [opO_look hx]; rfl⟩, rfl⟩, rfl⟩, by rw [putF_lk, upd_ov]; exact k⟩

theorem stp_make (hT : TOk P T) {t e : TypeId} {l c : Operand} {a b : Int} {ka kb k : IntKind} (ht : undT T t = some (.slice e)) (hc1 : celT T e = 1) (hb8 : bytT T e = some 8) (hz : zerF T e = some [.sc (.int k 0)])
    (hl : opO fl l = some (ivl ka a)) (hc : opO fl c = some (ivl kb b)) (hf : freeO sl d = true) (hb : 0 ≤ a ∧ a ≤ b ∧ b ≤ 35184372088832)
    (kk : K ⟨lk' ((d, .c (.win (.loc d) 0 a.toNat b.toNat)) :: fl), ov ((.loc d, .ints e k (List.replicate b.toNat 0)) :: sl) (pushS S)⟩) :
    Stp P mu ops ⟨some d, .makeSlice t l c, ty, pos, after, none⟩ ⟨lk' fl, ov sl (pushS S)⟩ K := by
  have ht := hT.und ht
  have hc1 := hT.cel hc1 (by simp)
  have hb8 := hT.byt hb8
  obtain ⟨h1, h2⟩ := zerF_spec hT hz
  refine ⟨_, ⟨_, _, ⟨d, .ints e k (List.replicate b.toNat 0), rfl, freeO_spec hf, ⟨e, _, ht, by omega, h1, by simp [hc1], h2, ?_⟩, rfl⟩, rfl⟩, by rw [putF_lk, upd_ov]; exact kk⟩
  rw [opO_look hl, opO_look hc]
  exact ⟨hb.1, hb.2.1, by rw [hb8]; omega, by omega, .inl ⟨rfl, .inr ⟨k, 0, rfl, rfl⟩⟩⟩

theorem stp_make1 (hT : TOk P T) {t e : TypeId} {l c : Operand} {a b : Int} {ka kb k : IntKind} (ht : undT T t = some (.slice e)) (hc1 : celT T e = 1) (hb8 : bytT T e = some 1) (hz : zerF T e = some [.sc (.int k 0)])
    (hl : opO fl l = some (ivl ka a)) (hc : opO fl c = some (ivl kb b)) (hf : freeO sl d = true) (hb : 0 ≤ a ∧ a ≤ b ∧ b ≤ 281474976710656)
    (kk : K ⟨lk' ((d, .c (.win (.loc d) 0 a.toNat b.toNat)) :: fl), ov ((.loc d, .ints e k (List.replicate b.toNat 0)) :: sl) (pushS S)⟩) :
    Stp P mu ops ⟨some d, .makeSlice t l c, ty, pos, after, none⟩ ⟨lk' fl, ov sl (pushS S)⟩ K := by
  have ht := hT.und ht
  have hc1 := hT.cel hc1 (by simp)
  have hb8 := hT.byt hb8
  obtain ⟨h1, h2⟩ := zerF_spec hT hz
  refine ⟨_, ⟨_, _, ⟨d, .ints e k (List.replicate b.toNat 0), rfl, freeO_spec hf, ⟨e, _, ht, by omega, h1, by simp [hc1], h2, ?_⟩, rfl⟩, rfl⟩, by rw [putF_lk, upd_ov]; exact kk⟩
  rw [opO_look hl, opO_look hc]
  exact ⟨hb.1, hb.2.1, by rw [hb8]; omega, by omega, .inl ⟨rfl, .inr ⟨k, 0, rfl, rfl⟩⟩⟩

theorem stp_makeA (hT : TOk P T) {t e : TypeId} {l c : Operand} {a b : Int} {ka kb k : IntKind} (ht : undT T t = some (.slice e)) (hc1 : celT T e = 1) {nb : Nat} (hb8 : bytT T e = some nb) (hz : zerF T e = some [.sc (.int k 0)])
    (hl : opO fl l = some (ivl ka a)) (hc : opO fl c = some (ivl kb b)) (hf : freeO sl d = true) (hab : a = b) (hb : 0 ≤ a ∧ (nb : Int) * b ≤ 281474976710656 ∧ b ≤ 9223372036854775807)
    (kk : K ⟨lk' ((d, .accv (.loc d) b.toNat) :: fl), ov ((.loc d, .accI e k (List.replicate b.toNat 0)) :: sl) (pushS S)⟩) :
    Stp P mu ops ⟨some d, .makeSlice t l c, ty, pos, after, none⟩ ⟨lk' fl, ov sl (pushS S)⟩ K := by
  have ht := hT.und ht
  have hc1 := hT.cel hc1 (by simp)
  have hb8 := hT.byt hb8
  obtain ⟨h1, h2⟩ := zerF_spec hT hz
  refine ⟨_, ⟨_, _, ⟨d, .accI e k (List.replicate b.toNat 0), rfl, freeO_spec hf, ⟨e, _, ht, by omega, h1, by simp [hc1], h2, ?_⟩, rfl⟩, rfl⟩, by rw [putF_lk, upd_ov]; exact kk⟩
  rw [opO_look hl, opO_look hc]
  exact ⟨hb.1, by omega, by rw [hb8]; omega, by omega, .inr ⟨hab, rfl, by rw [hc1]; simp [AObj.accI, List.map_replicate]⟩⟩

theorem int_fill {k : IntKind} : ∀ (ps : List (Nat × Operand)) (n : Nat) (pre : List Int) (L : List Int) (tl : List Cell), intsPart fl ps n = some (k, L) → pre.length = n → ps.length = tl.length →
    fillE (fun i => some (i * 1, 1)) (look (lk' fl)) (intsOf k pre ++ tl) ps (intsOf k (pre ++ L))
  | [], n, pre, L, tl, h, _, _ => by cases h
  | [(i, x)], n, pre, L, tl, h, hp, ht => by
    simp only [intsPart] at h
    split at h
    · rename_i k' a hi hx
      simp only [Option.some.injEq, Prod.mk.injEq] at h
      obtain ⟨rfl, rfl⟩ := h
      have := Nat.eq_of_beq_eq_true hi
      subst this
      match tl, ht with
      | [y], _ =>
        refine ⟨_, _, rfl, by rw [opO_look hx]; rfl, by rw [opO_look hx]; rfl, by simp [intsOf, hp], ?_⟩
        rw [opO_look hx]
        simp [fillE, AVal.cells, spl, intsOf, hp]
    · cases h
  | (i, x) :: q :: r, n, pre, L, tl, h, hp, ht => by
    simp only [intsPart] at h
    split at h
    · rename_i k1 a k2 L2 hi hx hr
      split at h
      · rename_i hk
        simp only [Option.some.injEq, Prod.mk.injEq] at h
        obtain ⟨rfl, rfl⟩ := h
        obtain rfl := kEq_eq hk
        have := Nat.eq_of_beq_eq_true hi
        subst this
        match tl, ht with
        | y :: tl, ht =>
          refine ⟨_, _, rfl, by rw [opO_look hx]; rfl, by rw [opO_look hx]; rfl, by simp [intsOf, hp], ?_⟩
          rw [opO_look hx]
          have ih := int_fill (k := k1) (q :: r) (i + 1) (pre ++ [a]) L2 tl hr (by simp [hp]) (by simpa using ht)
          have e : spl (intsOf k1 pre ++ y :: tl) (i * 1) (AVal.cells (ivl k1 a)) = intsOf k1 (pre ++ [a]) ++ tl := by
            have hd : List.drop (i + 1) (List.map (fun x => Cell.sc (Value.int k1 x)) pre ++ y :: tl) = tl := by
              rw [List.drop_append]; simp [hp]
            simp [spl, AVal.cells, intsOf, hp, hd]
          rw [e]
          simpa using ih
      · cases h
    · cases h

theorem intsPart_len {k : IntKind} : ∀ (ps : List (Nat × Operand)) (n : Nat) {L : List Int}, intsPart fl ps n = some (k, L) → L.length = ps.length
  | [], n, L, h => by cases h
  | [(i, x)], n, L, h => by
    simp only [intsPart] at h
    split at h
    · simp only [Option.some.injEq, Prod.mk.injEq] at h
      rw [← h.2]; rfl
    · cases h
  | (i, x) :: q :: r, n, L, h => by
    simp only [intsPart] at h
    split at h
    · rename_i k1 a k2 L2 hi hx hr
      split at h
      · rename_i hk
        simp only [Option.some.injEq, Prod.mk.injEq] at h
        obtain ⟨rfl, rfl⟩ := h
        obtain rfl := kEq_eq hk
        have := intsPart_len (q :: r) (n + 1) hr
        simp [this]
      · cases h
    · cases h

theorem stp_intsA (hT : TOk P T) {t e : TypeId} {n : Nat} {ps : Array (Nat × Operand)} {k : IntKind} {L : List Int} (ht : undT T t = some (.slice e)) (hc1 : celT T e = 1) (hz : zerF T e = some [.sc (.int k 0)]) (hp : intsPart fl ps.toList 0 = some (k, L) ∨ (ps.toList = [] ∧ L = []))
    (hn : Nat.beq ps.toList.length n = true) (hsmall : Nat.ble n 1000 = true) (hf : freeO sl d = true)
    (kk : K ⟨lk' ((d, .accv (.loc d) n) :: fl), ov ((.loc d, .accI e k L) :: sl) (pushS S)⟩) :
    Stp P mu ops ⟨some d, .buildSlice t n ps, ty, pos, after, none⟩ ⟨lk' fl, ov sl (pushS S)⟩ K := by
  have ht := hT.und ht
  have hc1 := hT.cel hc1 (by simp)
  obtain ⟨h1, h2⟩ := zerF_spec hT hz
  have hn := Nat.eq_of_beq_eq_true hn
  have hs := Nat.le_of_ble_eq_true hsmall
  have hLn : L.length = n := by
    rcases hp with hp | ⟨hp, rfl⟩
    · rw [← hn]; exact intsPart_len _ _ hp
    · rw [hp] at hn; exact hn
  refine ⟨_, ⟨_, _, ⟨d, .accI e k L, rfl, freeO_spec hf, ⟨e, _, intsOf k L, ht, by omega, by rw [hc1]; omega, h1, by simp [hc1], h2, ?_, .inr ⟨ir k L, (flat_ir k L).symm, by simp [hLn], by rw [hc1]; intro c hc; obtain ⟨y, -, rfl⟩ := List.mem_map.1 hc; rfl, rfl, by rw [hc1]⟩⟩, rfl⟩, rfl⟩, by rw [putF_lk, upd_ov]; exact kk⟩
  rcases hp with hp | ⟨hp, rfl⟩
  · have := int_fill (k := k) ps.toList 0 [] L (rep n [.sc (.int k 0)]) hp rfl (by rw [rep_length]; simp [hn])
    simpa [hc1, intsOf] using this
  · rw [hp] at hn ⊢
    have : n = 0 := hn.symm
    subst this
    rfl

theorem stp_ints (hT : TOk P T) {t e : TypeId} {n : Nat} {ps : Array (Nat × Operand)} {k : IntKind} {L : List Int} (ht : undT T t = some (.slice e)) (hc1 : celT T e = 1) (hz : zerF T e = some [.sc (.int k 0)]) (hp : intsPart fl ps.toList 0 = some (k, L))
    (hn : Nat.beq ps.toList.length n = true) (hsmall : Nat.ble n 1000 = true) (hf : freeO sl d = true)
    (kk : K ⟨lk' ((d, .c (.win (.loc d) 0 n n)) :: fl), ov ((.loc d, .ints e k L) :: sl) (pushS S)⟩) :
    Stp P mu ops ⟨some d, .buildSlice t n ps, ty, pos, after, none⟩ ⟨lk' fl, ov sl (pushS S)⟩ K := by
  have ht := hT.und ht
  have hc1 := hT.cel hc1 (by simp)
  obtain ⟨h1, h2⟩ := zerF_spec hT hz
  have hn := Nat.eq_of_beq_eq_true hn
  have hs := Nat.le_of_ble_eq_true hsmall
  refine ⟨_, ⟨_, _, ⟨d, .ints e k L, rfl, freeO_spec hf, ⟨e, _, intsOf k L, ht, by omega, by rw [hc1]; omega, h1, by simp [hc1], h2, ?_, .inl ⟨rfl, .inr ⟨k, L, rfl, rfl⟩⟩⟩, rfl⟩, rfl⟩, by rw [putF_lk, upd_ov]; exact kk⟩
  have := int_fill (k := k) ps.toList 0 [] L (rep n [.sc (.int k 0)]) hp rfl (by rw [rep_length]; simp [hn])
  simpa [hc1, intsOf] using this
end
end Go.Abs
