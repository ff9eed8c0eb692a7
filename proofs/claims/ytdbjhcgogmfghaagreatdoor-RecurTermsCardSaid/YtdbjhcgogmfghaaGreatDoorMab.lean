/-
  An abstract machine for this program, and contracts of its functions: part Mab (no statement by itself).
-/
import Derived.Test.YtdbjhcgogmfghaaGreatDoorMaa
import Derived.Maps.AppendAt
set_option linter.unusedVariables false
set_option linter.unusedSimpArgs false
set_option linter.unnecessarySimpa false

/-
  New blocks, stores, appends: what they leave, and that it stands.
-/
namespace Go.Abs
open Go

theorem upd_same (S : Store) (m : Nm) (o : AObj) : upd S m o m = some o:=by simp [upd]
theorem upd_ne (S : Store) {m n : Nm} (o : AObj) (h : n ≠ m) : upd S m o n = S n:=by simp [upd,h]

section
variable {P : Program} {w : World} {ρ : Nm→Nat} {S : Store} {r : Operand→AVal} {η : Operand→Value}

/-! ### A new block -/
def setN (ρ : Nm→Nat) (n : Nm) (b : Nat) : Nm→Nat:=fun m=>if m = n then b else ρ m

theorem heap_alloc_old (w : World) (o : Obj) {b : Nat} (h : b < w.heap.size) : (w.alloc o).heap[b]? = w.heap[b]?:=RowKit.Below.heap_alloc w o b h
theorem heap_alloc_at (w : World) (o : Obj) : (w.alloc o).heap[w.heap.size]? = some o:=heap_alloc_new w o

theorem EnvS.lt (he : EnvS w ρ S) {m : Nm} {o : AObj} (h : S m = some o) (hr : o.real = true) : ρ m < w.heap.size:=by
  have ho:=he.obj m o h
  have : ∃ x,w.heap[ρ m]? = some x:=by
    cases o with
    | cells ty cs=>obtain ⟨vs,q,_⟩:=ho;exact ⟨_,q⟩
    | ints ty k L=>obtain ⟨vs,q,_⟩:=ho;exact ⟨_,q⟩
    | fix x=>exact ⟨_,ho⟩
    | row ty cs=>obtain ⟨vs,q,_⟩:=ho;exact ⟨_,q⟩
    | acc ty k L =>
      rcases ho with rfl | ⟨vs,q,_⟩
      · cases hr
      · exact ⟨_,q⟩
  obtain ⟨x,hx⟩:=this
  exact (Array.getElem?_eq_some_iff.1 hx).1

structure New (w w' : World) (n : Nm) (o : Obj) : Prop where
  os : w'.os = w.os
  tape : w'.tape = w.tape
  output : w'.output = w.output
  size : w'.heap.size = w.heap.size + 1
  old : ∀ b,b < w.heap.size→w'.heap[b]? = w.heap[b]?
  new : w'.heap[w.heap.size]? = some o

theorem New.of_alloc (w : World) (n : Nm) (o : Obj) : New w (w.alloc o) n o:=⟨rfl,rfl,rfl,by simp,fun _ h=>heap_alloc_old w o h,heap_alloc_at w o⟩

theorem New.ext {w' : World} {n : Nm} {o : Obj} (h : New w w' n o) (he : EnvS w ρ S) (hn : S n = none) (ob : AObj) : Ext (fun _=>False) w ρ S w' (setN ρ n w.heap.size) (upd S n ob) where
  os:=h.os
  tape:=h.tape
  output:=h.output
  size:=by rw [h.size];omega
  old b hb _:=h.old b hb
  nms m o' hm hr:=by
    by_cases e : m = n
    · subst e;exact .inr (by simp [setN])
    · rw [upd_ne S ob e] at hm
      exact .inl ⟨o',hm,hr,by simp [setN,e]⟩
  kp m o hm hr:=by
    have e : m ≠ n:=fun e=>by subst e;rw [hn] at hm;cases hm
    exact ⟨o,by rw [upd_ne S ob e];exact hm,hr,by simp [setN,e]⟩
  szs m o _ hm hr ty q hq:=by
    obtain ⟨vs,h1,h2⟩:=hq
    exact ⟨vs,by rw [h.old _ (he.lt hm hr)];exact h1,h2⟩
  acc m ty k L _ hm:=by
    have e : m ≠ n:=fun e=>by subst e;rw [hn] at hm;cases hm
    exact ⟨by rw [upd_ne S ob e];exact hm,fun _=>by simp [setN,e]⟩
  nx _ h:=h.elim

theorem ObjS.ext {X : Nm→Prop} {w' : World} {ρ' : Nm→Nat} {S' : Store} (h : Ext X w ρ S w' ρ' S') {b b' : Nat} {o : AObj} (hb : ∀ x,w.heap[b]? = some x→w'.heap[b']? = some x)
(ho : ObjS w ρ S b o) : ObjS w' ρ' S' b' o:=by
  cases o with
  | cells ty cs =>
    obtain ⟨vs,q1,q0,q2⟩:=ho
    refine ⟨vs,hb _ q1,q0,fun i x hi=>?_⟩
    obtain ⟨u,p1,p2,p3⟩:=q2 i x hi
    exact ⟨u,p1,p2,p3.ext h⟩
  | fix x=>exact hb _ ho
  | row ty cs =>
    obtain ⟨vs,q1,q2⟩:=ho
    refine ⟨vs,hb _ q1,fun i x hi=>?_⟩
    obtain ⟨u,p1,p2,p3⟩:=q2 i x hi
    exact ⟨u,p1,p2,p3.ext h⟩
  | ints ty k L=>obtain ⟨vs,q1,q2⟩:=ho;exact ⟨vs,hb _ q1,q2⟩
  | acc ty k L =>
    rcases ho with e | ⟨vs,q1,q2⟩
    · exact .inl e
    · refine .inr ⟨vs,hb _ q1,q2.1,fun i c j x hi hj=>?_⟩
      obtain ⟨u,p1,p2,p3⟩:=q2.2 i c j x hi hj
      exact ⟨u,p1,p2,p3.ext h⟩

theorem New.env {w' : World} {n : Nm} {o : Obj} (h : New w w' n o) (he : EnvS w ρ S) (hn : S n = none) {ob : AObj}
    (hob : ObjS w' (setN ρ n w.heap.size) (upd S n ob) w.heap.size ob) : EnvS w' (setN ρ n w.heap.size) (upd S n ob) where
  inj m m' o1 o2 h1 h2 r1 r2 e:=by
    by_cases e1 : m = n <;> by_cases e2 : m' = n
    · rw [e1,e2]
    · rw [upd_ne S ob e2] at h2
      have:=he.lt h2 r2
      simp only [setN,e1,e2,if_true,if_false] at e;omega
    · rw [upd_ne S ob e1] at h1
      have:=he.lt h1 r1
      simp only [setN,e1,e2,if_true,if_false] at e;omega
    · rw [upd_ne S ob e1] at h1
      rw [upd_ne S ob e2] at h2
      simp only [setN,e1,e2,if_false] at e
      exact he.inj m m' o1 o2 h1 h2 r1 r2 e
  obj m o1 h1:=by
    by_cases e1 : m = n
    · subst e1
      rw [upd_same] at h1
      obtain rfl:=Option.some.inj h1
      simpa [setN] using hob
    · rw [upd_ne S ob e1] at h1
      simp only [setN,e1,if_false]
      have ho:=he.obj m o1 h1
      by_cases hr : o1.real = true
      · refine ho.ext (h.ext he hn ob) (fun x hx=>?_)
        rw [h.old _ (he.lt h1 hr)];exact hx
      · cases o1 with
        | acc ty k L=>cases L with | nil=>exact .inl rfl | cons a l=>exact absurd rfl hr
        | cells ty cs=>exact absurd rfl hr
        | ints ty k L=>exact absurd rfl hr
        | fix x=>exact absurd rfl hr
        | row ty cs=>exact absurd rfl hr

theorem CellsS.obj {w' : World} {n : Nm} {ty : TypeId} {cs : List Cell} {vs : Array Value} (h : New w w' n (.cells vs ty)) (he : EnvS w ρ S) (hn : S n = none) (hc : CellsS w ρ S cs vs.toList) :
    ObjS w' (setN ρ n w.heap.size) (upd S n (.cells ty cs)) w.heap.size (.cells ty cs):=by
  refine ⟨vs,h.new,by simpa using hc.1.symm,fun i x hi=>?_⟩
  obtain ⟨u,h1,h2,h3⟩:=hc.2 i x hi
  exact ⟨u,by simpa using h1,h2,h3.ext (h.ext he hn _)⟩

/-! ### Operations that make a block -/
def rep (n : Nat) (cs : List Cell) : List Cell:=(List.replicate n cs).flatten

def intsOf (k : IntKind) (L : List Int) : List Cell:=L.map fun x=>.sc (.int k x)

def newE (P : Program) (r : Operand→AVal) (d : Nat) (op : Op) (v : AVal) (ob : AObj) : Prop :=
  match op with
  | .alloc e=>∃ z,zeroCells P e = some z∧(∀ x ∈ z,x.solid)∧v = .c (.ptr (.loc d) 0)∧ob = .cells e z
  | .box e x=>(r x).solid∧v = .c (.ptr (.loc d) 0)∧ob = .cells e (r x).cells
  | .buildSlice t n ps=>∃ e z out,P.underlying t = some (.slice e)∧P.cellsOf e ≠ 0∧n * P.cellsOf e ≤ 2 ^ 24∧zeroCells P e = some z∧z.length = P.cellsOf e∧(∀ x ∈ z,x.solid) ∧
      fillE (fun i=>some (i * P.cellsOf e,P.cellsOf e)) r (rep n z) ps.toList out ∧
      ((v = .c (.win (.loc d) 0 n n)∧(ob = .cells e out ∨ ∃ k L,out = intsOf k L∧ob = .ints e k L)) ∨ (∃ R,out = R.flatten∧R.length = n∧(∀ c ∈ R,c.length = P.cellsOf e)∧v = .accv (.loc d) n∧ob = .acc e (P.cellsOf e) R))
  | .makeSlice t l c=>∃ e z,P.underlying t = some (.slice e)∧P.cellsOf e ≠ 0∧zeroCells P e = some z∧z.length = P.cellsOf e∧(∀ x ∈ z,x.solid) ∧
      match r l,r c with
      | .c (.sc (.int _ a)),.c (.sc (.int _ b))=>0 ≤ a∧a ≤ b∧(P.bytesOf e : Int) * b ≤ 281474976710656∧b ≤ 9223372036854775807 ∧
          ((v = .c (.win (.loc d) 0 a.toNat b.toNat)∧(ob = .cells e (rep b.toNat z) ∨ ∃ k x,z = [.sc (.int k x)]∧ob = .ints e k (List.replicate b.toNat x))) ∨
          (a = b∧v = .accv (.loc d) b.toNat∧ob = .acc e (P.cellsOf e) (List.replicate b.toNat z)))
      | _,_=>False
  | _=>False

theorem rep_get {z : List Cell} {n : Nat} {i : Nat} (hz : z ≠ []) (hi : i < n * z.length) : (rep n z)[i]? = z[i % z.length]?:=by
  unfold rep
  induction n generalizing i with
  | zero=>simp at hi
  | succ n ih =>
    rw [List.replicate_succ,List.flatten_cons]
    have hp : 0 < z.length:=List.length_pos_iff.2 hz
    rcases Nat.lt_or_ge i z.length with q | q
    · rw [List.getElem?_append_left q,Nat.mod_eq_of_lt q]
    · rw [List.getElem?_append_right q,ih (by rw [Nat.add_mul] at hi;omega),Nat.mod_eq_sub_mod q]

theorem rep_length (n : Nat) (z : List Cell) : (rep n z).length = n * z.length:=by
  unfold rep;simp [List.length_flatten]

theorem rep_cells {z : List Cell} {zs : Array Value} (h : CellsS w ρ S z zs.toList) (hz : z ≠ []) (n : Nat) :
    CellsS w ρ S (rep n z) ((Array.range (n * z.length)).map (fun i=>zs[i % zs.size]!)).toList:=by
  have e1:=h.1
  have hp : 0 < z.length:=List.length_pos_iff.2 hz
  refine ⟨by simp [rep_length],fun i x hi=>?_⟩
  have hlt : i < n * z.length:=by
    rcases Nat.lt_or_ge i (n * z.length) with q | q
    · exact q
    · rw [List.getElem?_eq_none (by rw [rep_length];exact q)] at hi;cases hi
  rw [rep_get hz hlt] at hi
  obtain ⟨u,h1,h2,h3⟩:=h.2 _ x hi
  have e2 : zs.size = z.length:=by simpa using e1.symm
  refine ⟨u,?_,h2,h3⟩
  have hm : i % z.length < zs.size:=by rw [e2];exact Nat.mod_lt _ hp
  have h1' : zs[i % z.length]! = u:=by
    rw [getElem!_pos zs _ hm]
    have : zs[i % z.length]? = some u:=by simpa using h1
    rw [Array.getElem?_eq_getElem hm] at this
    exact Option.some.inj this
  simp [hlt,e2,h1']

theorem rowS_of_cells {w' : World} {b : Nat} {ty : TypeId} {k : IntKind} {L : List Int} (h : ObjS w' ρ S b (.cells ty (intsOf k L))) : RowS w' b ty k L:=by
  obtain ⟨vs,h1,-,h2⟩:=h
  refine ⟨vs,h1,fun i x hi=>?_⟩
  obtain ⟨u,p1,_,p3⟩:=h2 i (.sc (.int k x)) (by simp [intsOf,hi])
  have : u = .int k x:=p3
  rw [← this];exact p1

theorem flat_get {sz : Nat} : ∀ {R : List (List Cell)} {i j : Nat} {c : List Cell} {x : Cell},(∀ c ∈ R,c.length = sz)→R[i]? = some c→c[j]? = some x→R.flatten[i * sz + j]? = some x
  | a :: R,0,j,c,x,hz,hi,hj=>by
    simp only [List.getElem?_cons_zero,Option.some.injEq] at hi
    subst hi
    have:=(List.getElem?_eq_some_iff.1 hj).1
    rw [List.flatten_cons,Nat.zero_mul,Nat.zero_add,List.getElem?_append_left this];exact hj
  | a :: R,i + 1,j,c,x,hz,hi,hj=>by
    have ha:=hz a (by simp)
    rw [List.flatten_cons,List.getElem?_append_right (by rw [ha,Nat.add_mul];omega),ha,show (i + 1) * sz + j - sz = i * sz + j by rw [Nat.add_mul];omega]
    exact flat_get (fun c hc=>hz c (by simp [hc])) (by simpa using hi) hj
  | [],i,j,c,x,hz,hi,hj=>by simp at hi
theorem rowsS_of_cells {w' : World} {b sz : Nat} {ty : TypeId} {R : List (List Cell)} (hz : ∀ c ∈ R,c.length = sz) (h : ObjS w' ρ S b (.cells ty R.flatten)) : RowsS w' ρ S b ty sz R:=by
  obtain ⟨vs,h1,-,h2⟩:=h
  refine ⟨vs,h1,hz,fun i c j x hi hj=>h2 _ x (flat_get hz hi hj)⟩
theorem flat_len {sz : Nat} : ∀ {R : List (List Cell)},(∀ c ∈ R,c.length = sz)→R.flatten.length = R.length * sz
  | [],_=>by simp
  | a :: R,hz=>by
    rw [List.flatten_cons,List.length_append,flat_len (fun c hc=>hz c (by simp [hc])),hz a (by simp),List.length_cons,Nat.add_mul];omega
theorem flat_ir (k : IntKind) : ∀ L : List Int,(ir k L).flatten = intsOf k L
  | []=>rfl
  | a :: L=>by have ih:=flat_ir k L;simp only [ir,intsOf,List.map_cons,List.flatten_cons] at *;rw [ih];rfl

theorem CellsS.objA {w' : World} {n : Nm} {ty : TypeId} {sz : Nat} {R : List (List Cell)} {vs : Array Value} (h : New w w' n (.cells vs ty)) (he : EnvS w ρ S) (hn : S n = none) (hz : ∀ c ∈ R,c.length = sz) (hc : CellsS w ρ S R.flatten vs.toList) :
    RowsS w' (setN ρ n w.heap.size) (upd S n (.acc ty sz R)) w.heap.size ty sz R:=by
  refine rowsS_of_cells hz ⟨vs,h.new,by simpa using hc.1.symm,fun i x hi=>?_⟩
  obtain ⟨u,h1,h2,h3⟩:=hc.2 i x hi
  exact ⟨u,by simpa using h1,h2,h3.ext (h.ext he hn _)⟩

theorem newE_run (he : EnvS w ρ S) (hr : ∀ x,VS w ρ S (r x) (η x)) {o : Oper} {d : Nat} {v : AVal} {ob : AObj} (hn : S (.loc d) = none) (h : newE P r d o.op v ob) :
    ∃ u vs ty,(execOp η o).run P w = .ok (.value u) (w.alloc (.cells vs ty))∧EnvS (w.alloc (.cells vs ty)) (setN ρ (.loc d) w.heap.size) (upd S (.loc d) ob) ∧
      VS (w.alloc (.cells vs ty)) (setN ρ (.loc d) w.heap.size) (upd S (.loc d) ob) v u:=by
  obtain ⟨dst,op,ty,pos,after,guard⟩:=o
  have fin : ∀ (vs : Array Value) (e : TypeId) (cs : List Cell),CellsS w ρ S cs vs.toList→(ob = .cells e cs ∨ ∃ k L,cs = intsOf k L∧ob = .ints e k L) →
      EnvS (w.alloc (.cells vs e)) (setN ρ (.loc d) w.heap.size) (upd S (.loc d) ob):=by
    intro vs e cs hc hob
    have hnew:=New.of_alloc w (.loc d) (.cells vs e)
    rcases hob with rfl | ⟨k,L,rfl,rfl⟩
    · exact hnew.env he hn (hc.obj hnew he hn)
    · exact hnew.env he hn (rowS_of_cells (hc.obj hnew he hn))
  have hreal : ∀ e cs,(ob = .cells e cs ∨ ∃ k L,cs = intsOf k L∧ob = .ints e k L)→ob.isAcc = false:=by
    rintro e cs (rfl | ⟨k,L,-,rfl⟩) <;> rfl
  cases op with
  | alloc e =>
    obtain ⟨z,h1,h2,rfl,rfl⟩:=h
    obtain ⟨zv,h3,h4⟩:=zero_cells (w:=w) (ρ:=ρ) (S:=S) h1 h2
    exact ⟨.pointer (some ⟨w.heap.size,0,none⟩),zv.cells,e,by simp [execOp,Instr.alloc,run_zeroOf h3,newVar,newRow],fin _ _ _ h4 (.inl rfl),⟨_,upd_same _ _ _,rfl⟩,by simp [setN]⟩
  | box e x =>
    obtain ⟨h1,rfl,rfl⟩:=h
    have h4:=solid_cells h1 (hr x)
    exact ⟨.pointer (some ⟨w.heap.size,0,none⟩),(η x).cells,e,by simp [execOp,Instr.box,newVar,newRow],fin _ _ _ h4 (.inl rfl),⟨_,upd_same _ _ _,rfl⟩,by simp [setN]⟩
  | buildSlice t n ps =>
    obtain ⟨e,z,out,h1,h2,h3,h4,h5,h6,h7,h8⟩:=h
    obtain ⟨zv,h9,h10⟩:=zero_cells (w:=w) (ρ:=ρ) (S:=S) h4 h6
    have hz : z ≠ []:=by rintro rfl;exact h2 h5.symm
    obtain ⟨us,h11,h12⟩:=fillE_run hr ps.toList (rep n z) out _ (rep_cells h10 hz n) h7
    have hl : ∀ (ps : List (Nat × Operand)) (cs out : List Cell),fillE (fun i=>some (i * P.cellsOf e,P.cellsOf e)) r cs ps out→out.length = cs.length:=by
      intro ps
      induction ps with
      | nil=>intro cs out h;simp only [fillE] at h;rw [h]
      | cons p ps ih =>
        obtain ⟨i,x⟩:=p
        rintro cs out ⟨off,size,-,-,q1,q2,q3⟩
        rw [ih _ _ q3]
        simp [Abs.spl,q1];omega
    have hl2:=hl _ _ _ h7
    rw [rep_length,h5] at hl2
    have hq : us.size = n * P.cellsOf e:=by have:=h12.1;simp at this;omega
    rw [h5] at h11
    have hrun : (execOp η ⟨dst,.buildSlice t n ps,ty,pos,after,guard⟩).run P w = .ok (.value (.slice (some ⟨w.heap.size,0,none⟩) n n)) (w.alloc (.cells us e)):=by
      have h3' : ¬ (16777216 < n * P.cellsOf e):=by omega
      have h11' : Instr.fill (fun i=>some (i * P.cellsOf e,P.cellsOf e)) ((Array.range (n * P.cellsOf e)).map (fun i=>zv.cells[i % zv.cells.size]!)) (ps.map fun p=>(p.1,η p.2)).toList = some us:=by
        simpa using h11
      by_cases h0 : n * P.cellsOf e = 0
      · have hn0 : n = 0:=by rcases Nat.mul_eq_zero.1 h0 with q | q;exact q;exact absurd q h2
        subst hn0
        have h11'':=h11'
        simp only [Nat.zero_mul,Array.range_zero',Array.map_empty,Array.toList_map] at h11''
        simp [execOp,Instr.buildSlice,run_underlying' h1,run_sizeOf' h2,Array.range_zero',newRow,h11'']
      · simp only [execOp,Instr.buildSlice,Sem.run_bind,run_underlying' h1,run_sizeOf' h2,Result.andThen_ok,Sem.run_ite,run_zeroOf h9,h0,if_false,Sem.run_pure]
        rw [if_neg (by simpa using h3')]
        simp only [Result.andThen_ok,Sem.run_pure,h11',newRow,Sem.run_bind,run_newObj,World.alloc_eq]
    rcases h8 with ⟨rfl,h8⟩ | ⟨R,rfl,hRn,hRz,rfl,rfl⟩
    · refine ⟨.slice (some ⟨w.heap.size,0,none⟩) n n,us,e,hrun,fin _ _ _ h12 h8,⟨_,upd_same _ _ _,hreal _ _ h8⟩,_,_,rfl,Nat.le_refl _,Nat.le_refl _,fun _=>⟨by simp [setN],e,us.size,⟨us,by simp only [setN,if_true];exact heap_alloc_at _ _,rfl⟩,?_⟩⟩
      rw [hq,Nat.zero_add]
      exact Nat.le_mul_of_pos_right _ (by omega)
    · have hnew:=New.of_alloc w (.loc d) (.cells us e)
      have hrow:=h12.objA hnew he hn hRz
      refine ⟨.slice (some ⟨w.heap.size,0,none⟩) n n,us,e,hrun,hnew.env he hn (.inr hrow),e,_,_,upd_same _ _ _,hRn,?_⟩
      by_cases h0 : n = 0
      · exact .inl ⟨List.eq_nil_of_length_eq_zero (by omega),_,by rw [h0]⟩
      · refine .inr ⟨fun q=>by rw [q] at hRn;exact h0 hRn.symm,n,by simp [setN,hRn],by omega,?_,_,by simp only [setN,if_true];exact heap_alloc_at _ _,by rw [hq]⟩
        have : n ≤ n * P.cellsOf e:=Nat.le_mul_of_pos_right _ (by omega)
        simp only [maxLen];omega
  | makeSlice t l c =>
    obtain ⟨e,z,h1,h2,h4,h5,h6,h7⟩:=h
    obtain ⟨zv,h9,h10⟩:=zero_cells (w:=w) (ρ:=ρ) (S:=S) h4 h6
    have hz : z ≠ []:=by rintro rfl;exact h2 h5.symm
    split at h7
    · rename_i kl a kc b el ec
      obtain ⟨g1,g2,g3,g4,h78⟩:=h7
      have e1:=hr l;rw [el] at e1;have e1:=vs_sc e1
      have e2:=hr c;rw [ec] at e2;have e2:=vs_sc e2
      have hrepi : ∀ (k : IntKind) (x : Int) (q : Nat),rep q [Cell.sc (.int k x)] = intsOf k (List.replicate q x):=by
        intro k x q
        unfold rep intsOf
        rw [List.map_replicate]
        induction q with
        | zero=>rfl
        | succ q ih=>rw [List.replicate_succ,List.flatten_cons,ih];rfl
      unfold zeroOf at h9
      cases ei : P.info? e with
      | none=>rw [ei] at h9;cases h9
      | some i =>
        rw [ei] at h9
        have hz' : i.zero = some zv:=h9
        have hsz : P.cellsOf e = i.size:=by simp [Program.cellsOf,ei]
        have hby : P.bytesOf e = i.bytes:=by simp [Program.bytesOf,ei]
        have hm:=run_make (P:=P) w t e i zv h1 ei hz' kl kc a b g1 g2 (by rw [← hby];exact g3) g4
        have hrc:=rep_cells h10 hz b.toNat
        rw [h5,hsz] at hrc
        rcases h78 with ⟨rfl,h8⟩ | ⟨rfl,rfl,rfl⟩
        · have h8' : ob = .cells e (rep b.toNat z) ∨ ∃ k L,rep b.toNat z = intsOf k L∧ob = .ints e k L:=by
            rcases h8 with rfl | ⟨k,x,rfl,rfl⟩
            · exact .inl rfl
            · exact .inr ⟨k,_,hrepi k x _,rfl⟩
          refine ⟨.slice (some ⟨w.heap.size,0,none⟩) a.toNat b.toNat,madeCells zv.cells (b.toNat * i.size),e,by simp only [execOp,e1,e2,Sem.run_bind,hm,Result.andThen_ok,Sem.run_pure],fin _ _ _ hrc h8',⟨_,upd_same _ _ _,hreal _ _ h8'⟩,_,_,rfl,by omega,Nat.le_refl _,fun _=>⟨by simp [setN],e,_,⟨_,by simp only [setN,if_true];exact heap_alloc_at _ _,rfl⟩,?_⟩⟩
          rw [Nat.zero_add,madeCells]
          simp only [Array.size_map,Array.size_range]
          exact Nat.le_mul_of_pos_right _ (by omega)
        · have hnew:=New.of_alloc w (.loc d) (.cells (madeCells zv.cells (a.toNat * i.size)) e)
          have hrow:=CellsS.objA (sz:=P.cellsOf e) (R:=List.replicate a.toNat z) hnew he hn (fun c hc=>by rw [(List.mem_replicate.1 hc).2];exact h5) hrc
          refine ⟨.slice (some ⟨w.heap.size,0,none⟩) a.toNat a.toNat,madeCells zv.cells (a.toNat * i.size),e,by simp only [execOp,e1,e2,Sem.run_bind,hm,Result.andThen_ok,Sem.run_pure],hnew.env he hn (.inr hrow),e,_,_,upd_same _ _ _,by simp,?_⟩
          by_cases h0 : a.toNat = 0
          · exact .inl ⟨by rw [h0];rfl,_,by rw [h0]⟩
          · refine .inr ⟨by simp [h0],a.toNat,by simp [setN],by simp,by simp only [maxLen];omega,_,by simp only [setN,if_true];exact heap_alloc_at _ _,by simp [madeCells,hsz]⟩
    · exact h7.elim
  | _=>exact h.elim
end
end Go.Abs

/-
  Stores and appends.
-/
namespace Go.Abs
open Go

theorem setRow_other (w : World) (g : Nat) (cs : Array Value) {b : Nat} (h : b ≠ g) : (w.setRow g cs).heap[b]? = w.heap[b]?:=by
  simp only [World.setRow,Array.getElem?_modify]
  rw [if_neg (fun e=>h e.symm)]

section
variable {P : Program} {w : World} {ρ : Nm→Nat} {S : Store} {r : Operand→AVal} {η : Operand→Value}

structure Put (w w' : World) (g : Nat) (vs : Array Value) (ty : TypeId) : Prop where
  os : w'.os = w.os
  tape : w'.tape = w.tape
  output : w'.output = w.output
  size : w'.heap.size = w.heap.size
  old : ∀ b,b ≠ g→w'.heap[b]? = w.heap[b]?
  at_ : w'.heap[g]? = some (.cells vs ty (0,0))

theorem Put.of_setRow {g : Nat} {cur : Array Value} {ty : TypeId} (h : w.heap[g]? = some (.cells cur ty (0,0))) (cs : Array Value) : Put w (w.setRow g cs) g cs ty :=
  ⟨rfl,rfl,rfl,by simp [World.setRow],fun _ hb=>setRow_other w g cs hb,setRow_heap w g cur cs ty (0,0) h⟩

theorem Put.ext {w' : World} {m : Nm} {vs cur : Array Value} {ty : TypeId} (h : Put w w' (ρ m) vs ty) {o o' : AObj} (hm : S m = some o) (ha : o.isAcc = false) (ha' : o'.isAcc = false)
    (hc : w.heap[ρ m]? = some (.cells cur ty (0,0))) (hs : vs.size = cur.size) : Ext (fun _=>False) w ρ S w' ρ (upd S m o') where
  os:=h.os
  tape:=h.tape
  output:=h.output
  size:=by rw [h.size];exact Nat.le_refl _
  old b hb hn:=h.old b (fun e=>hn m o hm (AObj.real_of ha) e.symm)
  nms n q hn hr:=by
    by_cases e : n = m
    · subst e;exact .inl ⟨o,hm,AObj.real_of ha,rfl⟩
    · rw [upd_ne S o' e] at hn;exact .inl ⟨q,hn,hr,rfl⟩
  kp n q hn hr:=by
    by_cases e : n = m
    · subst e;exact ⟨o',upd_same _ _ _,ha',rfl⟩
    · exact ⟨q,by rw [upd_ne S o' e];exact hn,hr,rfl⟩
  szs n q _ hn hr t k hk:=by
    by_cases e : ρ n = ρ m
    · obtain ⟨us,h1,h2⟩:=hk
      rw [e] at h1 ⊢
      rw [hc] at h1
      injection h1 with h1
      injection h1 with h1 h3
      subst h1 h3
      exact ⟨vs,h.at_,by rw [hs,h2]⟩
    · obtain ⟨us,h1,h2⟩:=hk
      exact ⟨us,by rw [h.old _ e];exact h1,h2⟩
  acc n t k L _ hn:=by
    have e : n ≠ m:=fun e=>by subst e;rw [hm] at hn;injection hn with hn;subst hn;cases ha
    exact ⟨by rw [upd_ne S o' e];exact hn,fun _=>rfl⟩
  nx _ h:=h.elim

theorem Put.env {w' : World} {m : Nm} {vs cur : Array Value} {ty : TypeId} (h : Put w w' (ρ m) vs ty) (he : EnvS w ρ S) {o o' : AObj} (hm : S m = some o) (ha : o.isAcc = false) (ha' : o'.isAcc = false)
    (hc : w.heap[ρ m]? = some (.cells cur ty (0,0))) (hs : vs.size = cur.size) (ho : ObjS w' ρ (upd S m o') (ρ m) o') : EnvS w' ρ (upd S m o') where
  inj a b o1 o2 h1 h2 r1 r2 e:=by
    have aux : ∀ {a : Nm} {q : AObj},upd S m o' a = some q→q.real = true→∃ q',S a = some q'∧q'.real = true:=by
      intro a q h1 h2
      by_cases e : a = m
      · subst e;exact ⟨o,hm,AObj.real_of ha⟩
      · rw [upd_ne S o' e] at h1;exact ⟨q,h1,h2⟩
    obtain ⟨q1,a1,b1⟩:=aux h1 r1
    obtain ⟨q2,a2,b2⟩:=aux h2 r2
    exact he.inj a b q1 q2 a1 a2 b1 b2 e
  obj a q hq:=by
    by_cases e : a = m
    · subst e
      rw [upd_same] at hq
      obtain rfl:=Option.some.inj hq
      exact ho
    · rw [upd_ne S o' e] at hq
      have h1:=he.obj a q hq
      by_cases hr : q.real = true
      · refine h1.ext (h.ext hm ha ha' hc hs) (fun x hx=>?_)
        rw [h.old _ (fun e2=>e (he.inj a m q o hq hm hr (AObj.real_of ha) e2))];exact hx
      · cases q with
        | acc ty k L=>cases L with | nil=>exact .inl rfl | cons a l=>exact absurd rfl hr
        | cells ty cs=>exact absurd rfl hr
        | ints ty k L=>exact absurd rfl hr
        | fix x=>exact absurd rfl hr
        | row ty cs=>exact absurd rfl hr

def storeE (P : Program) (S : Store) (t : TypeId) (a x : AVal) (S' : Store) : Prop :=
  match a with
  | .c (.ptr m off)=>(∃ ty cs,S m = some (.cells ty cs)∧x.solid∧P.cellsOf t ≠ 0∧x.cells.length = P.cellsOf t∧off + x.cells.length ≤ cs.length∧S' = upd S m (.cells ty (spl cs off x.cells))) ∨
      (∃ ty k L y,S m = some (.ints ty k L)∧P.cellsOf t = 1∧x = ivl k y∧off < L.length∧S' = upd S m (.ints ty k (L.set off y))) ∨
      (∃ ty cs y,S m = some (.row ty cs)∧P.cellsOf t = 1∧x = .c y∧y.solid∧off < cs.length∧S' = upd S m (.row ty (cs.set off y)))
  | _=>False

theorem storeE_run (he : EnvS w ρ S) {t : TypeId} {a x : AVal} {u v : Value} {S' : Store} (ha : VS w ρ S a u) (hx : VS w ρ S x v) (h : storeE P S t a x S') :
    ∃ w',(Instr.storeAt t u v).run P w = .ok () w'∧EnvS w' ρ S'∧Ext (fun _=>False) w ρ S w' ρ S':=by
  unfold storeE at h
  split at h
  · rename_i m off
    obtain ⟨-,rfl⟩:=ha
    rcases h with ⟨ty,cs,hm,h1,h2,h3,h4,rfl⟩ | ⟨ty,k,L,y,hm,h2,rfl,h4,rfl⟩ | ⟨ty,cs,y,hm,h2,rfl,h1,h4,rfl⟩
    · have hsc:=solid_cells h1 hx
      obtain ⟨vs,q1,q0,q2⟩:=he.obj m _ hm
      have hlen : cs.length ≤ vs.size:=by
        rcases Nat.lt_or_ge vs.size cs.length with q | q
        · obtain ⟨u,p1,_⟩:=q2 vs.size _ (List.getElem?_eq_getElem q)
          rw [Array.getElem?_eq_none (Nat.le_refl _)] at p1;cases p1
        · exact q
      have hl : v.cells.toList.length = x.cells.length:=hsc.1.symm
      have hst:=run_storeCells_at P (ρ m) off ty v.cells.toList 0 vs w q1 (by rw [hl];omega) (fun u hu=>by
        obtain ⟨i,hi,e⟩:=List.getElem_of_mem hu
        obtain ⟨u',p1,p2,_⟩:=hsc.2 i _ (List.getElem?_eq_getElem (by omega))
        rw [List.getElem?_eq_getElem hi] at p1
        obtain rfl:=Option.some.inj p1
        rw [← e];exact p2)
      rw [Nat.add_zero,hl] at hst
      have hput:=Put.of_setRow q1 (vs.toList.take off ++ v.cells.toList ++ vs.toList.drop (off + x.cells.length)).toArray
      generalize hW : w.setRow (ρ m) (vs.toList.take off ++ v.cells.toList ++ vs.toList.drop (off + x.cells.length)).toArray = W at hst hput
      have hsz : (vs.toList.take off ++ v.cells.toList ++ vs.toList.drop (off + x.cells.length)).toArray.size = vs.size:=by
        simp only [List.size_toArray,List.length_append,List.length_take,List.length_drop,hl,Array.length_toList];omega
      have hext:=hput.ext hm rfl (o':=.cells ty (spl cs off x.cells)) rfl q1 hsz
      refine ⟨W,?_,hput.env he hm rfl rfl q1 hsz ⟨_,hput.at_,by rw [hsz,q0];simp [Abs.spl];omega,fun i c hi=>?_⟩,hext⟩
      · have e1 : v.cells.size = P.cellsOf t:=by rw [← h3,← hl];simp
        simp only [Instr.storeAt,Sem.run_bind,Instr.sureAddr,Sem.run_pure,Result.andThen_ok,storeVar,run_sizeOf' h2,Sem.run_ite]
        rw [if_neg (by simp [e1])]
        exact hst
      · simp only [List.append_assoc,List.getElem?_toArray]
        unfold Abs.spl at hi
        rw [List.append_assoc] at hi
        rcases Nat.lt_or_ge i off with g | g
        · rw [List.getElem?_append_left (by simp;omega),List.getElem?_take_of_lt g] at hi
          rw [List.getElem?_append_left (by simp;omega),List.getElem?_take_of_lt g]
          obtain ⟨u,p1,p2,p3⟩:=q2 i c hi
          exact ⟨u,by simpa using p1,p2,p3.ext hext⟩
        · have e3 : (vs.toList.take off).length = (cs.take off).length:=by simp;omega
          have e4 : (cs.take off).length = off:=by simp;omega
          rw [List.getElem?_append_right (by omega)] at hi
          rw [List.getElem?_append_right (by omega),e3]
          rw [e4] at hi ⊢
          rcases Nat.lt_or_ge i (off + x.cells.length) with g2 | g2
          · rw [List.getElem?_append_left (by omega)] at hi
            rw [List.getElem?_append_left (by omega)]
            obtain ⟨u,p1,p2,p3⟩:=hsc.2 _ c hi
            exact ⟨u,p1,p2,p3.ext hext⟩
          · rw [List.getElem?_append_right (by omega),List.getElem?_drop] at hi
            rw [List.getElem?_append_right (by omega),List.getElem?_drop,hl]
            obtain ⟨u,p1,p2,p3⟩:=q2 _ c hi
            exact ⟨u,by simpa using p1,p2,p3.ext hext⟩
    · have ev : v = .int k y:=vs_sc hx
      subst ev
      obtain ⟨vs,q1,q2⟩:=he.obj m _ hm
      have hlen : off < vs.size:=by
        rcases Nat.lt_or_ge off vs.size with q | q
        · exact q
        · have:=q2 off _ (List.getElem?_eq_getElem h4)
          rw [Array.getElem?_eq_none q] at this;cases this
      have hst:=run_storeCells_at P (ρ m) off ty [.int k y] 0 vs w q1 (by simp;omega) (fun u hu=>by simp at hu;subst hu;rfl)
      rw [Nat.add_zero] at hst
      have hput:=Put.of_setRow q1 (vs.toList.take off ++ [Value.int k y] ++ vs.toList.drop (off + 1)).toArray
      have hst' : (storeCells ⟨ρ m,off,none⟩ [Value.int k y]).run P w = .ok () (w.setRow (ρ m) (vs.toList.take off ++ [Value.int k y] ++ vs.toList.drop (off + 1)).toArray):=hst
      generalize hW : w.setRow (ρ m) (vs.toList.take off ++ [Value.int k y] ++ vs.toList.drop (off + 1)).toArray = W at hst' hput
      have hsz : (vs.toList.take off ++ [Value.int k y] ++ vs.toList.drop (off + 1)).toArray.size = vs.size:=by
        simp only [List.size_toArray,List.length_append,List.length_take,List.length_drop,Array.length_toList,List.length_cons,List.length_nil];omega
      have hext:=hput.ext hm rfl (o':=.ints ty k (L.set off y)) rfl q1 hsz
      refine ⟨W,?_,hput.env he hm rfl rfl q1 hsz ⟨_,hput.at_,fun i c hi=>?_⟩,hext⟩
      · have e2 : P.cellsOf t ≠ 0:=by omega
        have e3 : #[Value.int k y].size = P.cellsOf t:=by simp [h2]
        simp only [Instr.storeAt,Sem.run_bind,Instr.sureAddr,Sem.run_pure,Result.andThen_ok,storeVar,run_sizeOf' e2,Value.cells,e3,ne_eq,not_true_eq_false,if_false]
        exact hst'
      · simp only [List.append_assoc,List.getElem?_toArray]
        rw [List.getElem?_set] at hi
        have e4 : (vs.toList.take off).length = off:=by simp;omega
        by_cases g : off = i
        · subst g
          simp only [if_true,h4] at hi
          obtain rfl:=Option.some.inj hi
          rw [List.getElem?_append_right (by omega),e4,Nat.sub_self];rfl
        · rw [if_neg g] at hi
          rcases Nat.lt_or_ge i off with g1 | g1
          · rw [List.getElem?_append_left (by omega),List.getElem?_take_of_lt g1]
            simpa using q2 i c hi
          · rw [List.getElem?_append_right (by omega),List.getElem?_append_right (by simp;omega),List.getElem?_drop,e4]
            have:=q2 i c hi
            rw [show off + 1 + (i - off - [Value.int k y].length) = i by simp;omega]
            simpa using this
    · have hsc:=solid_cells (x:=.c y) h1 hx
      have hv1 : v.oneCell' = true:=CellS.one hx h1
      obtain ⟨vs,q1,q2⟩:=he.obj m _ hm
      have hlen : off < vs.size:=by
        obtain ⟨u,p1,_⟩:=q2 off _ (List.getElem?_eq_getElem h4)
        exact (Array.getElem?_eq_some_iff.1 p1).1
      have hst:=run_storeCells_at P (ρ m) off ty [v] 0 vs w q1 (by simp;omega) (fun u hu=>by simp at hu;subst hu;exact hv1)
      rw [Nat.add_zero] at hst
      have hput:=Put.of_setRow q1 (vs.toList.take off ++ [v] ++ vs.toList.drop (off + 1)).toArray
      have hst' : (storeCells ⟨ρ m,off,none⟩ [v]).run P w = .ok () (w.setRow (ρ m) (vs.toList.take off ++ [v] ++ vs.toList.drop (off + 1)).toArray):=hst
      generalize hW : w.setRow (ρ m) (vs.toList.take off ++ [v] ++ vs.toList.drop (off + 1)).toArray = W at hst' hput
      have hsz : (vs.toList.take off ++ [v] ++ vs.toList.drop (off + 1)).toArray.size = vs.size:=by
        simp only [List.size_toArray,List.length_append,List.length_take,List.length_drop,Array.length_toList,List.length_cons,List.length_nil];omega
      have hext:=hput.ext hm rfl (o':=.row ty (cs.set off y)) rfl q1 hsz
      have hcv : v.cells = #[v]:=by cases v <;> first | rfl | (simp [Value.oneCell'] at hv1)
      refine ⟨W,?_,hput.env he hm rfl rfl q1 hsz ⟨_,hput.at_,fun i c hi=>?_⟩,hext⟩
      · have e2 : P.cellsOf t ≠ 0:=by omega
        have e3 : v.cells.size = P.cellsOf t:=by rw [hcv,h2];rfl
        simp only [Instr.storeAt,Sem.run_bind,Instr.sureAddr,Sem.run_pure,Result.andThen_ok,storeVar,run_sizeOf' e2,Sem.run_ite]
        rw [if_neg (by simp [e3]),hcv]
        exact hst'
      · simp only [List.append_assoc,List.getElem?_toArray]
        rw [List.getElem?_set] at hi
        have e4 : (vs.toList.take off).length = off:=by simp;omega
        by_cases g : off = i
        · subst g
          simp only [if_true,h4] at hi
          obtain rfl:=Option.some.inj hi
          rw [List.getElem?_append_right (by omega),e4,Nat.sub_self]
          exact ⟨v,rfl,hv1,CellS.ext hext hx⟩
        · rw [if_neg g] at hi
          rcases Nat.lt_or_ge i off with g1 | g1
          · rw [List.getElem?_append_left (by omega),List.getElem?_take_of_lt g1]
            obtain ⟨u,p1,p2,p3⟩:=q2 i c hi
            exact ⟨u,by simpa using p1,p2,p3.ext hext⟩
          · rw [List.getElem?_append_right (by omega),List.getElem?_append_right (by simp;omega),List.getElem?_drop,e4]
            obtain ⟨u,p1,p2,p3⟩:=q2 i c hi
            rw [show off + 1 + (i - off - [v].length) = i by simp;omega]
            exact ⟨u,by simpa using p1,p2,p3.ext hext⟩
  · exact h.elim
end
end Go.Abs

/-
  Appends to what a function gathers.
-/
namespace Go.Abs
open Go
set_option linter.unusedSimpArgs false

theorem upd_self {S : Store} {m : Nm} {o : AObj} (h : S m = some o) : upd S m o = S:=by
  funext n;unfold upd;split
  · rename_i e;rw [e,h]
  · rfl

section
variable {P : Program} {w : World} {ρ : Nm→Nat} {S : Store} {r : Operand→AVal} {η : Operand→Value}

def srcR (S : Store) (x : AVal) (sz : Nat) (Y : List (List Cell)) : Prop :=
  match x with
  | .c (.ints k L)=>sz = 1∧Y = ir k L
  | .c (.intc k L n)=>sz = 1∧n ≤ L.length∧Y = ir k (L.take n)
  | .c (.seq sz' L)=>sz' = sz∧Y = L.map (·.map Leaf.cell)
  | .c (.seqc sz' L n)=>sz' = sz∧n ≤ L.length∧Y = (L.take n).map (·.map Leaf.cell)
  | .c (.win m off len _)=>(∀ c ∈ Y,c.length = sz)∧Y.length = len∧∃ ty,(∃ k L,S m = some (.ints ty k L)∧sz = 1∧off + len ≤ L.length∧Y = ir k ((L.drop off).take len)) ∨ (∃ cs,(S m = some (.cells ty cs) ∨ S m = some (.row ty cs))∧off + len * sz ≤ cs.length∧(cs.drop off).take (len * sz) = Y.flatten)
  | .accv m _=>∃ ty,S m = some (.acc ty sz Y)
  | .c (.sc (.slice none 0 0))=>Y = []
  | _=>False

theorem row_held {b off sz : Nat} {Y : List (List Cell)} (hz : ∀ c ∈ Y,c.length = sz) (h : ∀ i c j x,Y[i]? = some c→c[j]? = some x→∃ u,w.cell? ⟨b,off + (i * sz + j),none⟩ = some u∧u.oneCell' = true∧CellS w ρ S x u) :
    ∃ us : List Value,CellsS w ρ S Y.flatten us∧∀ j u,us[j]? = some u→w.cell? ⟨b,off + j,none⟩ = some u:=by
  have key : ∀ j,j < Y.flatten.length→∃ u,w.cell? ⟨b,off + j,none⟩ = some u∧∀ x,Y.flatten[j]? = some x→u.oneCell' = true∧CellS w ρ S x u:=by
    intro j hj
    rw [flat_len hz] at hj
    have hs : 0 < sz:=Nat.pos_of_ne_zero fun e=>by subst e;omega
    have hi : j / sz < Y.length:=(Nat.div_lt_iff_lt_mul hs).2 hj
    have hm : j % sz < (Y[j / sz]).length:=by rw [hz _ (List.getElem_mem hi)];exact Nat.mod_lt _ hs
    obtain ⟨u,h1,h2,h3⟩:=h (j / sz) _ (j % sz) _ (List.getElem?_eq_getElem hi) (List.getElem?_eq_getElem hm)
    have e : j / sz * sz + j % sz = j:=by rw [Nat.mul_comm];exact Nat.div_add_mod j sz
    rw [e] at h1
    refine ⟨u,h1,fun x hx=>?_⟩
    have:=flat_get hz (List.getElem?_eq_getElem hi) (List.getElem?_eq_getElem hm)
    rw [e,hx] at this
    obtain rfl:=Option.some.inj this
    exact ⟨h2,h3⟩
  obtain ⟨us,l1,l2⟩:=list_of_cells key
  refine ⟨us,⟨l1.symm,fun i x hi=>?_⟩,fun j u hu=>(l2 j u hu).1⟩
  have hlt:=(List.getElem?_eq_some_iff.1 hi).1
  obtain ⟨-,p⟩:=l2 i _ (List.getElem?_eq_getElem (by omega))
  exact ⟨us[i],by simp,(p x hi).1,(p x hi).2⟩

theorem srcR_len {S : Store} {x : AVal} {sz : Nat} {Y : List (List Cell)} (he : EnvS w ρ S) {u : Value} (hx : VS w ρ S x u) (h : srcR S x sz Y) : ∀ c ∈ Y,c.length = sz:=by
  unfold srcR at h
  split at h
  · obtain ⟨rfl,rfl⟩:=h;intro c hc;obtain ⟨y,-,rfl⟩:=List.mem_map.1 hc;rfl
  · obtain ⟨rfl,-,rfl⟩:=h;intro c hc;obtain ⟨y,-,rfl⟩:=List.mem_map.1 hc;rfl
  · obtain ⟨rfl,rfl⟩:=h
    obtain ⟨A,cap,-,-,-,hz,-⟩:=hx
    intro c hc;obtain ⟨y,hy,rfl⟩:=List.mem_map.1 hc;simpa using hz y hy
  · obtain ⟨rfl,-,rfl⟩:=h
    obtain ⟨A,cap,-,-,-,hz,-⟩:=hx
    intro c hc;obtain ⟨y,hy,rfl⟩:=List.mem_map.1 hc;simpa using hz y (List.mem_of_mem_take hy)
  · exact h.1
  · obtain ⟨ty,hm⟩:=h
    rcases he.obj _ _ hm with rfl | ⟨vs,-,hz,-⟩
    · intro c hc;cases hc
    · exact hz
  · subst h;intro c hc;cases hc
  · exact h.elim

theorem srcR_held (he : EnvS w ρ S) {x : AVal} {u : Value} {sz : Nat} {Y : List (List Cell)} (hs0 : sz ≠ 0) (hx : VS w ρ S x u) (h : srcR S x sz Y) :
    (Y = []∧∃ A c,u = .slice A 0 c) ∨ (Y ≠ []∧∃ b off c us,u = .slice (some ⟨b,off,none⟩) Y.length c∧CellsS w ρ S Y.flatten us∧∀ j u',us[j]? = some u'→w.cell? ⟨b,off + j,none⟩ = some u'):=by
  have hz:=srcR_len he hx h
  unfold srcR at h
  split at h
  · rename_i k L
    obtain ⟨rfl,rfl⟩:=h
    obtain ⟨A,cap,rfl,h1,h2,h3⟩:=hx
    cases L with
    | nil=>exact .inl ⟨rfl,A,cap,rfl⟩
    | cons a l =>
      obtain ⟨b,off,rfl,-,hc⟩:=h3 (by simp)
      obtain ⟨us,q1,q2⟩:=row_held (w:=w) (ρ:=ρ) (S:=S) (b:=b) (off:=off) hz (fun i c j x hi hj=>by
        rw [List.getElem?_map,Option.map_eq_some_iff] at hi
        obtain ⟨y,e1,rfl⟩:=hi
        match j,hj with
        | 0,hj =>
          simp only [List.getElem?_cons_zero,Option.some.injEq] at hj
          subst hj
          exact ⟨_,by simpa using hc i y e1,rfl,rfl⟩)
      exact .inr ⟨by simp,b,off,cap,us,by simp,q1,q2⟩
  · rename_i k L n
    obtain ⟨rfl,hn,rfl⟩:=h
    obtain ⟨A,cap,rfl,h1,h2,h3⟩:=hx
    by_cases h0 : n = 0
    · subst h0;exact .inl ⟨by simp,A,cap,rfl⟩
    · obtain ⟨b,off,rfl,-,hc⟩:=h3 (by omega)
      obtain ⟨us,q1,q2⟩:=row_held (w:=w) (ρ:=ρ) (S:=S) (b:=b) (off:=off) hz (fun i c j x hi hj=>by
        rw [List.getElem?_map,Option.map_eq_some_iff] at hi
        obtain ⟨y,e1,rfl⟩:=hi
        have hlt : i < n:=by
          rcases Nat.lt_or_ge i n with q | q
          · exact q
          · rw [List.getElem?_eq_none (by simp;omega)] at e1;cases e1
        rw [List.getElem?_take_of_lt hlt] at e1
        match j,hj with
        | 0,hj =>
          simp only [List.getElem?_cons_zero,Option.some.injEq] at hj
          subst hj
          exact ⟨_,by simpa using hc i y e1,rfl,rfl⟩)
      refine .inr ⟨by intro e;have q:=congrArg List.length e;rw [List.length_map,List.length_take,Nat.min_eq_left hn,List.length_nil] at q;omega,b,off,cap,us,by simp [Nat.min_eq_left hn],q1,q2⟩
  · rename_i sz' L
    obtain ⟨rfl,rfl⟩:=h
    obtain ⟨A,cap,rfl,-,h1,h2,h3⟩:=hx
    cases L with
    | nil=>exact .inl ⟨rfl,A,cap,rfl⟩
    | cons a l =>
      obtain ⟨b,off,rfl,-,hc⟩:=h3 (by simp)
      obtain ⟨us,q1,q2⟩:=row_held (w:=w) (ρ:=ρ) (S:=S) (b:=b) (off:=off) hz (fun i c j x hi hj=>by
        rw [List.getElem?_map,Option.map_eq_some_iff] at hi
        obtain ⟨y,e1,rfl⟩:=hi
        rw [List.getElem?_map,Option.map_eq_some_iff] at hj
        obtain ⟨z,e2,rfl⟩:=hj
        obtain ⟨u,p1,p2⟩:=hc i y j z e1 e2
        exact ⟨u,p1,p2.one,p2.cellS⟩)
      exact .inr ⟨by simp,b,off,cap,us,by simp,q1,q2⟩
  · rename_i sz' L n
    obtain ⟨rfl,hn,rfl⟩:=h
    obtain ⟨A,cap,rfl,-,h1,h2,h3⟩:=hx
    by_cases h0 : n = 0
    · subst h0;exact .inl ⟨by simp,A,cap,rfl⟩
    · obtain ⟨b,off,rfl,-,hc⟩:=h3 (by omega)
      obtain ⟨us,q1,q2⟩:=row_held (w:=w) (ρ:=ρ) (S:=S) (b:=b) (off:=off) hz (fun i c j x hi hj=>by
        rw [List.getElem?_map,Option.map_eq_some_iff] at hi
        obtain ⟨y,e1,rfl⟩:=hi
        have hlt : i < n:=by
          rcases Nat.lt_or_ge i n with q | q
          · exact q
          · rw [List.getElem?_eq_none (by simp;omega)] at e1;cases e1
        rw [List.getElem?_take_of_lt hlt] at e1
        rw [List.getElem?_map,Option.map_eq_some_iff] at hj
        obtain ⟨z,e2,rfl⟩:=hj
        obtain ⟨u,p1,p2⟩:=hc i y j z e1 e2
        exact ⟨u,p1,p2.one,p2.cellS⟩)
      refine .inr ⟨by intro e;have q:=congrArg List.length e;rw [List.length_map,List.length_take,Nat.min_eq_left hn,List.length_nil] at q;omega,b,off,cap,us,by simp [Nat.min_eq_left hn],q1,q2⟩
  · rename_i m off len cm
    obtain ⟨-,hlen,ty,h⟩:=h
    obtain ⟨⟨o,ho,ha⟩,A,cap,rfl,h1,h2,h3⟩:=hx
    by_cases h0 : len = 0
    · exact .inl ⟨List.eq_nil_of_length_eq_zero (by omega),A,cap,by rw [h0]⟩
    · obtain ⟨rfl,-⟩:=h3 (by omega)
      have hne : Y ≠ []:=fun e=>h0 (by rw [← hlen,e];rfl)
      rcases h with ⟨k,L,hm,rfl,hl,rfl⟩ | ⟨cs,hm,hl,e⟩
      · obtain ⟨vs,q1,q2⟩:=he.obj m _ hm
        obtain ⟨us,g1,g2⟩:=row_held (w:=w) (ρ:=ρ) (S:=S) (b:=ρ m) (off:=off) hz (fun i c j x hi hj=>by
          rw [List.getElem?_map,Option.map_eq_some_iff] at hi
          obtain ⟨y,e1,rfl⟩:=hi
          have hlt : i < len:=by
            rcases Nat.lt_or_ge i len with q | q
            · exact q
            · rw [List.getElem?_eq_none (by simp;omega)] at e1;cases e1
          rw [List.getElem?_take_of_lt hlt,List.getElem?_drop] at e1
          match j,hj with
          | 0,hj =>
            simp only [List.getElem?_cons_zero,Option.some.injEq] at hj
            subst hj
            exact ⟨_,by rw [cell_of_heap q1];simpa using q2 _ y e1,rfl,rfl⟩)
        exact .inr ⟨hne,ρ m,off,cap,us,by rw [hlen],g1,g2⟩
      · obtain ⟨vs,q1,q2⟩ : ∃ vs,w.heap[ρ m]? = some (.cells vs ty (0,0))∧∀ (i : Nat) (x : Cell),cs[i]? = some x→∃ u,vs[i]? = some u∧u.oneCell' = true∧CellS w ρ S x u:=by
          rcases hm with hm | hm
          · obtain ⟨vs,q1,-,q2⟩:=he.obj m _ hm;exact ⟨vs,q1,q2⟩
          · exact he.obj m _ hm
        obtain ⟨us,g1,g2⟩:=row_held (w:=w) (ρ:=ρ) (S:=S) (b:=ρ m) (off:=off) hz (fun i c j x hi hj=>by
          have e1:=flat_get hz hi hj
          rw [← e] at e1
          have hlt : i * sz + j < len * sz:=by
            rcases Nat.lt_or_ge (i * sz + j) (len * sz) with q | q
            · exact q
            · rw [List.getElem?_eq_none (by simp;omega)] at e1;cases e1
          rw [List.getElem?_take_of_lt hlt,List.getElem?_drop] at e1
          obtain ⟨u,p1,p2,p3⟩:=q2 _ _ e1
          exact ⟨u,by rw [cell_of_heap q1];exact p1,p2,p3⟩)
        exact .inr ⟨hne,ρ m,off,cap,us,by rw [hlen],g1,g2⟩
  · rename_i m n0
    obtain ⟨ty,hm⟩:=h
    obtain ⟨ty',sz',L',hm',-,h1⟩:=hx
    rw [hm] at hm'
    simp only [Option.some.injEq,AObj.acc.injEq] at hm'
    obtain ⟨rfl,rfl,rfl⟩:=hm'
    rcases h1 with ⟨rfl,A,rfl⟩ | ⟨hne,cap,rfl,-⟩
    · exact .inl ⟨rfl,A,0,rfl⟩
    · rcases he.obj m _ hm with q | ⟨vs,q1,-,q2⟩
      · exact absurd q hne
      · obtain ⟨us,g1,g2⟩:=row_held (w:=w) (ρ:=ρ) (S:=S) (b:=ρ m) (off:=0) hz (fun i c j x hi hj=>by
          obtain ⟨u,p1,p2,p3⟩:=q2 i c j x hi hj
          exact ⟨u,by rw [cell_of_heap q1,Nat.zero_add];exact p1,p2,p3⟩)
        exact .inr ⟨hne,ρ m,0,cap,us,rfl,g1,g2⟩
  · subst h;have:=vs_sc hx;subst this;exact .inl ⟨rfl,none,0,rfl⟩
  · exact h.elim

theorem run_append_none {t e : TypeId} (ht : P.underlying t = some (.slice e)) (h1 : P.cellsOf e ≠ 0) (b A : Option Addr) (n cap c : Nat) (hn : n ≤ cap) (ty : TypeId) :
    (Builtin.append_ #[t,t] ty #[.slice b n cap,.slice A 0 c]).run P w = .ok (.slice b n cap) w:=by
  have hl : ∀ a : Addr,(loadCells a 0).run P w = .ok #[] w:=fun a=>by simp [loadCells,loadCellsFrom]
  cases A <;> cases b <;> simp [Builtin.append_,run_underlying' ht,run_sizeOf' h1,Builtin.lenOf,hn,Builtin.firstCells,hl,storeCells]

theorem run_append_zero {t e : TypeId} (ht : P.underlying t = some (.slice e)) {i : TypeInfo} (hi : P.info? e = some i) (a0 a : Addr) (m c : Nat) (hm : 0 < m) (hb : m * i.bytes ≤ 140737488355328) (ty : TypeId) :
    (Builtin.append_ #[t,t] ty #[.slice (some a0) 0 0,.slice (some a) m c]).run P w = (Builtin.append_ #[t,t] ty #[.slice none 0 0,.slice (some a) m c]).run P w:=by
  have hn : Builtin.nextslicecap m 0 = m:=nextslicecap_zero hm
  have h1 : ¬ 281474976710656 < m * i.bytes:=by omega
  have hm0 : ¬ m = 0:=by omega
  simp [Builtin.append_,run_underlying' ht,sizeOf,typeInfo,hi,Builtin.lenOf,hn,h1,hm0,Builtin.firstCells,loadCells,loadCellsFrom]

structure Grew (w : World) (ρ : Nm→Nat) (S : Store) (n : Nm) (e : TypeId) (k : Nat) (L : List (List Cell)) (v : Value) (w' : World) (ρ' : Nm→Nat) : Prop where
  env : EnvS w' ρ' (upd S n (.acc e k L))
  ext : Ext (fun m=>m = n) w ρ S w' ρ' (upd S n (.acc e k L))
  val : VS w' ρ' (upd S n (.acc e k L)) (.accv n L.length) v

theorem append_grew (he : EnvS w ρ S) {t e ty : TypeId} (ht : P.underlying t = some (.slice e)) {k : Nat} (hc1 : P.cellsOf e = k) (hk : 0 < k) {zv : Value} (hz : zeroOf P e = some zv) (hzk : zv.cells.size = k) {n : Nm} {L Y : List (List Cell)}
    (hn : (S n = none∧L = []) ∨ S n = some (.acc e k L)) {sv xv : Value}
    (hsv0 : (L = []∧∃ A,sv = .slice A 0 0) ∨ (L ≠ []∧∃ cap,sv = .slice (some ⟨ρ n,0,none⟩) L.length cap∧L.length ≤ cap∧cap ≤ maxLen∧SzX w (ρ n) e (cap * k)))
    {x : AVal} (hx : VS w ρ S x xv) (hsrc : srcR S x k Y) (hb : (L.length + Y.length) * P.bytesOf e ≤ 140737488355328) (h63 : L.length + Y.length ≤ maxLen) :
    ∃ v w' ρ',(Builtin.append_ #[t,t] ty #[sv,xv]).run P w = .ok v w'∧Grew w ρ S n e k (L ++ Y) v w' ρ':=by
  rcases srcR_held he (by omega) hx hsrc with ⟨rfl,A,c,rfl⟩ | ⟨hY,b,off,c,news,rfl,hnews,hcell⟩
  · -- nothing is appended
    rw [List.append_nil]
    have hsv:=hsv0
    have hv : ∃ v,(Builtin.append_ #[t,t] ty #[sv,.slice A 0 c]).run P w = .ok v w∧v = sv:=by
      rcases hsv with ⟨-,A2,rfl⟩ | ⟨-,cap,rfl,h1,-⟩
      · exact ⟨_,run_append_none ht (by omega) A2 A 0 0 c (Nat.le_refl _) ty,rfl⟩
      · exact ⟨_,run_append_none ht (by omega) _ A _ cap c h1 ty,rfl⟩
    obtain ⟨v,hv,rfl⟩:=hv
    refine ⟨v,w,ρ,hv,?_⟩
    rcases hn with ⟨h1,rfl⟩ | h1
    · refine ⟨⟨fun a b o1 o2 e1 e2 r1 r2 q=>?_,fun a o ha=>?_⟩,⟨rfl,rfl,rfl,Nat.le_refl _,fun _ _ _=>rfl,fun a o ha hr=>?_,fun a o ha hr=>?_,fun _ _ _ _ _ _ _ h=>h,fun a ty' k' L' hX ha=>?_,fun m hm o ho=>?_⟩,?_⟩
      · by_cases q1 : a = n
        · subst q1;rw [upd_same] at e1;obtain rfl:=Option.some.inj e1;cases r1
        · by_cases q2 : b = n
          · subst q2;rw [upd_same] at e2;obtain rfl:=Option.some.inj e2;cases r2
          · rw [upd_ne _ _ q1] at e1;rw [upd_ne _ _ q2] at e2;exact he.inj a b o1 o2 e1 e2 r1 r2 q
      · by_cases q1 : a = n
        · subst q1;rw [upd_same] at ha;obtain rfl:=Option.some.inj ha;exact .inl rfl
        · rw [upd_ne _ _ q1] at ha
          exact (he.obj a o ha).ext (X:=fun m=>m = n) (w':=w) (ρ':=ρ) ⟨rfl,rfl,rfl,Nat.le_refl _,fun _ _ _=>rfl,fun a o ha hr=>by
            by_cases q1 : a = n
            · subst q1;rw [upd_same] at ha;obtain rfl:=Option.some.inj ha;cases hr
            · rw [upd_ne _ _ q1] at ha;exact .inl ⟨o,ha,hr,rfl⟩,fun a o ha hr=>by
            have q1 : a ≠ n:=fun q1=>by subst q1;rw [h1] at ha;cases ha
            exact ⟨o,by rw [upd_ne _ _ q1];exact ha,hr,rfl⟩,fun _ _ _ _ _ _ _ h=>h,fun a ty' k' L' hX ha=>⟨by rw [upd_ne _ _ hX];exact ha,fun _=>rfl⟩,fun m hm o ho=>by subst hm;rw [h1] at ho;cases ho⟩ (fun x hx=>hx)
      · by_cases q1 : a = n
        · subst q1;rw [upd_same] at ha;obtain rfl:=Option.some.inj ha;cases hr
        · rw [upd_ne _ _ q1] at ha;exact .inl ⟨o,ha,hr,rfl⟩
      · have q1 : a ≠ n:=fun q1=>by subst q1;rw [h1] at ha;cases ha
        exact ⟨o,by rw [upd_ne _ _ q1];exact ha,hr,rfl⟩
      · exact ⟨by rw [upd_ne _ _ hX];exact ha,fun _=>rfl⟩
      · subst hm;rw [h1] at ho;cases ho
      · rcases hsv with ⟨-,hA⟩ | ⟨h,-⟩
        · exact ⟨e,k,[],upd_same _ _ _,rfl,.inl ⟨rfl,hA⟩⟩
        · exact absurd rfl h
    · rw [show Grew w ρ S n e k L v w ρ ↔ (EnvS w ρ S∧Ext (fun m=>m = n) w ρ S w ρ S∧VS w ρ S (.accv n L.length) v) from by
        constructor
        · rintro ⟨a,b,c⟩;rw [upd_self h1] at a b c;exact ⟨a,b,c⟩
        · rintro ⟨a,b,c⟩;exact ⟨by rw [upd_self h1];exact a,by rw [upd_self h1];exact b,by rw [upd_self h1];exact c⟩]
      refine ⟨he,⟨rfl,rfl,rfl,Nat.le_refl _,fun _ _ _=>rfl,fun _ o h hr=>.inl ⟨o,h,hr,rfl⟩,fun _ o h hr=>⟨o,h,hr,rfl⟩,fun _ _ _ _ _ _ _ h=>h,fun _ _ _ _ _ h=>⟨h,fun _=>rfl⟩,fun m hm o ho=>?_⟩,e,k,L,h1,rfl,hsv⟩
      subst hm;rw [h1] at ho;obtain rfl:=Option.some.inj ho;rfl
  · -- something is
    cases ei : P.info? e with
    | none=>simp [zeroOf,ei] at hz
    | some i =>
      have hz' : i.zero = some zv:=by simpa [zeroOf,ei] using hz
      have hsz : i.size = k:=by simpa [Program.cellsOf,ei] using hc1
      have hby : P.bytesOf e = i.bytes:=by simp [Program.bytesOf,ei]
      obtain ⟨sv',hsv,hrun0⟩ : ∃ sv',((L = []∧sv' = .slice none 0 0) ∨ (L ≠ []∧∃ cap,sv' = .slice (some ⟨ρ n,0,none⟩) L.length cap∧L.length ≤ cap∧cap ≤ maxLen∧SzX w (ρ n) e (cap * k))) ∧
          (Builtin.append_ #[t,t] ty #[sv,.slice (some ⟨b,off,none⟩) Y.length c]).run P w = (Builtin.append_ #[t,t] ty #[sv',.slice (some ⟨b,off,none⟩) Y.length c]).run P w:=by
        rcases hsv0 with ⟨rfl,A,rfl⟩ | h
        · refine ⟨_,.inl ⟨rfl,rfl⟩,?_⟩
          cases A with
          | none=>rfl
          | some a0=>exact run_append_zero ht ei a0 ⟨b,off,none⟩ Y.length c (List.length_pos_iff.2 hY) (by rw [← hby];simpa using hb) ty
        · exact ⟨_,.inr h,rfl⟩
      rw [hrun0]
      have hYz:=srcR_len he hx hsrc
      obtain ⟨olds,hown,holds⟩ : ∃ olds,w.ownsRow 0 e k sv' L.length olds∧(L ≠ []→(∀ c ∈ L,c.length = k)∧CellsS w ρ S L.flatten olds):=by
        rcases hsv with ⟨rfl,rfl⟩ | ⟨hL,cap,rfl,h1,h2,vs,h3,h4⟩
        · exact ⟨[],⟨by simp,.inl ⟨rfl,rfl⟩⟩,fun h=>absurd rfl h⟩
        · have hn' : S n = some (.acc e k L):=by rcases hn with ⟨-,q⟩ | q;exact absurd q hL;exact q
          rcases he.obj n _ hn' with q | ⟨vs',q1,q0,q2⟩
          · exact absurd q hL
          · rw [h3] at q1
            injection q1 with q1
            injection q1 with q1 _ _
            subst q1
            have hle : L.length * k ≤ vs.size:=by rw [h4];exact Nat.mul_le_mul_right _ h1
            refine ⟨vs.toList.take (L.length * k),⟨by simp;omega,.inr ⟨ρ n,cap,vs,rfl,Nat.zero_le _,h3,h1,h2,h4,rfl⟩⟩,fun _=>⟨q0,?_⟩⟩
            refine ⟨by rw [flat_len q0];simp;omega,fun j x hj=>?_⟩
            have hlt:=(List.getElem?_eq_some_iff.1 hj).1
            rw [flat_len q0] at hlt
            have hi : j / k < L.length:=(Nat.div_lt_iff_lt_mul hk).2 hlt
            have hm : j % k < (L[j / k]).length:=by rw [q0 _ (List.getElem_mem hi)];exact Nat.mod_lt _ hk
            have e1 : j / k * k + j % k = j:=by rw [Nat.mul_comm];exact Nat.div_add_mod j k
            have e2:=flat_get q0 (List.getElem?_eq_getElem hi) (List.getElem?_eq_getElem hm)
            rw [e1,hj] at e2
            obtain ⟨u,p1,p2,p3⟩:=q2 (j / k) _ (j % k) _ (List.getElem?_eq_getElem hi) (List.getElem?_eq_getElem hm)
            rw [e1] at p1
            obtain rfl:=Option.some.inj e2
            exact ⟨u,by rw [List.getElem?_take_of_lt hlt];simpa using p1,p2,p3⟩
      have hnl : news.length = Y.length * k:=by rw [← hnews.1,flat_len hYz]
      obtain ⟨v',w',hrun,hown',hg,-,hat⟩:=run_append_own_at (P:=P) w 0 t ty e i zv k i.bytes ht ei hz' hsz rfl hzk hk sv' L.length olds hown ⟨b,off,none⟩ Y.length c news hnl
        (fun j u hj=>by rw [add_pl];exact hcell j u hj) (fun u hu=>by
          obtain ⟨j,hj,rfl⟩:=List.getElem_of_mem hu
          obtain ⟨u',p1,p2,-⟩:=hnews.2 j _ (List.getElem?_eq_getElem (by rw [hnews.1];exact hj))
          rw [List.getElem?_eq_getElem hj] at p1
          obtain rfl:=Option.some.inj p1
          exact p2) h63 (by rw [← hby];exact hb) (Nat.zero_le _)
      have hpos : 0 < Y.length:=List.length_pos_iff.2 hY
      rcases hown'.2 with ⟨rfl,q⟩ | ⟨g,cap',cur,rfl,-,hg1,hg2,hg3,hg4,hg5⟩
      · omega
      have hgat : (L ≠ []∧g = ρ n) ∨ g = w.heap.size:=by
        rcases hat with q | q
        · rcases hsv with ⟨rfl,rfl⟩ | ⟨hL,cap,rfl,-⟩
          · simp [Value.ownBlock] at q
          · simp [Value.ownBlock] at q;exact .inl ⟨hL,q⟩
        · simp [Value.ownBlock] at q;exact .inr q
      have hne : L ++ Y ≠ []:=by simp [hY]
      have hblk : ∀ m o,m ≠ n→S m = some o→o.real = true→w'.heap[ρ m]? = w.heap[ρ m]?∧ρ m ≠ g:=by
        intro m o hm ho hr
        have hlt:=he.lt ho hr
        have hnb : some (ρ m) ≠ sv'.ownBlock:=by
          rcases hsv with ⟨rfl,rfl⟩ | ⟨hL,cap,rfl,-⟩
          · simp [Value.ownBlock]
          · have hn' : S n = some (.acc e k L):=by rcases hn with ⟨-,q⟩ | q;exact absurd q hL;exact q
            simp only [Value.ownBlock,ne_eq,Option.some.injEq]
            intro q
            exact hm (he.inj m n o _ ho hn' hr (by cases L with | nil=>exact absurd rfl hL | cons a l=>rfl) q)
        refine ⟨hg.block _ hlt hnb,?_⟩
        rcases hgat with ⟨hL,rfl⟩ | rfl
        · have hn' : S n = some (.acc e k L):=by rcases hn with ⟨-,q⟩ | q;exact absurd q hL;exact q
          intro q
          exact hm (he.inj m n o _ ho hn' hr (by cases L with | nil=>exact absurd rfl hL | cons a l=>rfl) q)
        · omega
      have hext : Ext (fun m=>m = n) w ρ S w' (setN ρ n g) (upd S n (.acc e k (L ++ Y))):=by
        refine ⟨hg.os,hg.tape,hg.output,hg.size,fun bb hbb hnn=>hg.block bb hbb (fun q=>?_),fun m o hm hr=>?_,fun m o hm ha=>?_,fun m o hX hm hr ty' q hq=>?_,fun m ty' k' L' hX hm=>?_,fun m hX o hm=>?_⟩
        · rcases hsv with ⟨rfl,rfl⟩ | ⟨hL,cap,rfl,-⟩
          · simp [Value.ownBlock] at q
          · have hn' : S n = some (.acc e k L):=by rcases hn with ⟨-,q⟩ | q;exact absurd q hL;exact q
            simp [Value.ownBlock] at q
            exact hnn n _ hn' (by cases L with | nil=>exact absurd rfl hL | cons a l=>rfl) q.symm
        · by_cases q1 : m = n
          · subst q1
            rcases hgat with ⟨hL,rfl⟩ | rfl
            · have hn' : S m = some (.acc e k L):=by rcases hn with ⟨-,q⟩ | q;exact absurd q hL;exact q
              exact .inl ⟨_,hn',by cases L with | nil=>exact absurd rfl hL | cons a l=>rfl,by simp [setN]⟩
            · exact .inr (by simp [setN])
          · rw [upd_ne _ _ q1] at hm;exact .inl ⟨o,hm,hr,by simp [setN,q1]⟩
        · have q1 : m ≠ n:=fun q1=>by
            subst q1
            rcases hn with ⟨q,-⟩ | q
            · rw [q] at hm;cases hm
            · rw [q] at hm;obtain rfl:=Option.some.inj hm;cases ha
          exact ⟨o,by rw [upd_ne _ _ q1];exact hm,ha,by simp [setN,q1]⟩
        · obtain ⟨us,p1,p2⟩:=hq
          exact ⟨us,by rw [(hblk m o hX hm hr).1];exact p1,p2⟩
        · exact ⟨by rw [upd_ne _ _ hX];exact hm,fun _=>by simp [setN,show m ≠ n from hX]⟩
        · subst hX
          rcases hn with ⟨q,-⟩ | q
          · rw [q] at hm;cases hm
          · rw [q] at hm;obtain rfl:=Option.some.inj hm;rfl
      have hLz : ∀ c ∈ L,c.length = k:=by
        intro c hc
        exact (holds (fun e=>by subst e;cases hc)).1 c hc
      have hall : ∀ c ∈ L ++ Y,c.length = k:=fun c hc=>by rcases List.mem_append.1 hc with q | q;exact hLz c q;exact hYz c q
      have hcs : CellsS w ρ S (L ++ Y).flatten (olds ++ news):=by
        have ho : CellsS w ρ S L.flatten olds:=by
          by_cases e : L = []
          · subst e
            have : olds = []:=List.eq_nil_of_length_eq_zero (by have:=hown.1;simpa using this)
            subst this
            exact ⟨rfl,fun i x hi=>by simp at hi⟩
          · exact (holds e).2
        rw [List.flatten_append]
        refine ⟨by rw [List.length_append,List.length_append,ho.1,hnews.1],fun i x hi=>?_⟩
        rcases Nat.lt_or_ge i L.flatten.length with q | q
        · rw [List.getElem?_append_left q] at hi
          rw [List.getElem?_append_left (by rw [← ho.1];exact q)]
          exact ho.2 i x hi
        · rw [List.getElem?_append_right q] at hi
          rw [List.getElem?_append_right (by rw [← ho.1];exact q),← ho.1]
          exact hnews.2 _ x hi
      have hrow : RowsS w' (setN ρ n g) (upd S n (.acc e k (L ++ Y))) g e k (L ++ Y):=by
        refine ⟨cur,hg1,hall,fun i c j x hi hj=>?_⟩
        have e1:=flat_get hall hi hj
        obtain ⟨u,p1,p2,p3⟩:=hcs.2 _ x e1
        rw [← hg5] at p1
        have hlt : i * k + j < (L.length + Y.length) * k:=by
          have:=(List.getElem?_eq_some_iff.1 e1).1
          rw [flat_len hall,List.length_append] at this
          exact this
        rw [List.getElem?_take_of_lt hlt] at p1
        exact ⟨u,by simpa using p1,p2,p3.ext hext⟩
      refine ⟨_,w',setN ρ n g,hrun,⟨⟨fun m m' o1 o2 e1 e2 r1 r2 q=>?_,fun m o hm=>?_⟩,hext,e,k,L ++ Y,upd_same _ _ _,rfl,.inr ⟨hne,cap',by simp [setN],by simpa using hg2,hg3,cur,by simpa [setN] using hg1,hg4⟩⟩⟩
      · by_cases q1 : m = n <;> by_cases q2 : m' = n
        · rw [q1,q2]
        · rw [upd_ne _ _ q2] at e2
          simp only [setN,q1,q2,if_true,if_false] at q
          exact absurd q.symm (hblk m' o2 q2 e2 r2).2
        · rw [upd_ne _ _ q1] at e1
          simp only [setN,q1,q2,if_true,if_false] at q
          exact absurd q (hblk m o1 q1 e1 r1).2
        · rw [upd_ne _ _ q1] at e1;rw [upd_ne _ _ q2] at e2
          simp only [setN,q1,q2,if_false] at q
          exact he.inj m m' o1 o2 e1 e2 r1 r2 q
      · by_cases q1 : m = n
        · subst q1
          rw [upd_same] at hm
          obtain rfl:=Option.some.inj hm
          exact .inr (by simpa [setN] using hrow)
        · rw [upd_ne _ _ q1] at hm
          simp only [setN,q1,if_false]
          have ho:=he.obj m o hm
          by_cases hr : o.real = true
          · exact ho.ext hext (fun x hx=>by rw [(hblk m o q1 hm hr).1];exact hx)
          · cases o with
            | acc ty k L=>cases L with | nil=>exact .inl rfl | cons a l=>exact absurd rfl hr
            | cells ty cs=>exact absurd rfl hr
            | ints ty k L=>exact absurd rfl hr
            | fix x=>exact absurd rfl hr
            | row ty cs=>exact absurd rfl hr
theorem append_room (he : EnvS w ρ S) {t e ty : TypeId} (ht : P.underlying t = some (.slice e)) {sz : Nat} (hc1 : P.cellsOf e = sz) (hk : 0 < sz) {zv : Value} (hz : zeroOf P e = some zv) {m : Nm} {cs : List Cell} {Y : List (List Cell)} {len cm : Nat}
    (hm : S m = some (.cells e cs)) (h1 : len + Y.length ≤ cm) (h2 : (len + Y.length) * sz ≤ cs.length) {sv xv : Value} (hs : VS w ρ S (.c (.win m 0 len cm)) sv) {x : AVal} (hx : VS w ρ S x xv) (hsrc : srcR S x sz Y) :
    ∃ v w',(Builtin.append_ #[t,t] ty #[sv,xv]).run P w = .ok v w'∧EnvS w' ρ (upd S m (.cells e (spl cs (len * sz) Y.flatten))) ∧
      Ext (fun _=>False) w ρ S w' ρ (upd S m (.cells e (spl cs (len * sz) Y.flatten)))∧VS w' ρ (upd S m (.cells e (spl cs (len * sz) Y.flatten))) (.c (.win m 0 (len + Y.length) cm)) v:=by
  have hYz:=srcR_len he hx hsrc
  obtain ⟨-,A,cap,rfl,q1,q2,q3⟩:=hs
  rcases srcR_held he (by omega) hx hsrc with ⟨rfl,A',c,rfl⟩ | ⟨hY,b,off,c,news,rfl,hnews,hcell⟩
  · have e1 : spl cs (len * sz) ([] : List (List Cell)).flatten = cs:=by simp [Abs.spl]
    rw [e1,upd_self hm]
    exact ⟨_,w,run_append_none ht (by omega) A A' len cap c (by omega) ty,he,Ext.refl _ _ _,⟨_,hm,rfl⟩,A,cap,rfl,by simpa using q1,q2,q3⟩
  · have hpos : 0 < Y.length:=List.length_pos_iff.2 hY
    have hnl : news.length = Y.length * sz:=by rw [← hnews.1,flat_len hYz]
    obtain ⟨rfl,ty2,q,⟨cur2,g1,g2⟩,g3⟩:=q3 (by omega)
    obtain ⟨cur,f1,f0,f2⟩:=he.obj m _ hm
    rw [f1] at g1
    injection g1 with g1
    injection g1 with g1 g4
    subst g1 g4
    have hcur : cs.length ≤ cur.size:=by
      rcases Nat.lt_or_ge cur.size cs.length with q | q
      · obtain ⟨u,p1,_⟩:=f2 cur.size _ (List.getElem?_eq_getElem q)
        rw [Array.getElem?_eq_none (Nat.le_refl _)] at p1;cases p1
      · exact q
    have hle : len * sz + Y.length * sz ≤ cs.length:=by rw [← Nat.add_mul];exact h2
    cases ei : P.info? e with
    | none=>simp [zeroOf,ei] at hz
    | some i =>
      have hsz : i.size = sz:=by simpa [Program.cellsOf,ei] using hc1
      subst hsz
      have hone : ∀ u ∈ news,u.oneCell' = true:=fun u hu=>by
        obtain ⟨j,hj,rfl⟩:=List.getElem_of_mem hu
        obtain ⟨u',p1,p2,-⟩:=hnews.2 j _ (List.getElem?_eq_getElem (by rw [hnews.1];exact hj))
        rw [List.getElem?_eq_getElem hj] at p1
        obtain rfl:=Option.some.inj p1
        exact p2
      have hrun:=run_append_room (P:=P) w t ty e i ht ei (ρ m) len cap cur f1 ⟨b,off,none⟩ Y.length c news hnl (fun j u hj=>by rw [add_pl];exact hcell j u hj) hone (by omega) (by omega)
      have hput:=Put.of_setRow f1 (cur.toList.take (len * i.size) ++ news ++ cur.toList.drop (len * i.size + news.length)).toArray
      generalize hW : w.setRow (ρ m) (cur.toList.take (len * i.size) ++ news ++ cur.toList.drop (len * i.size + news.length)).toArray = W at hrun hput
      have hsize : (cur.toList.take (len * i.size) ++ news ++ cur.toList.drop (len * i.size + news.length)).toArray.size = cur.size:=by
        simp [hnl];omega
      have hext:=hput.ext (o':=.cells e (spl cs (len * i.size) Y.flatten)) hm rfl rfl f1 hsize
      have hfl : Y.flatten.length = news.length:=hnews.1
      refine ⟨_,_,hrun,hput.env he hm rfl rfl f1 hsize ⟨_,hput.at_,by rw [hsize,f0];simp [Abs.spl,hfl,hnl];omega,fun j y hj=>?_⟩,hext,⟨_,upd_same _ _ _,rfl⟩,_,cap,rfl,h1,q2,fun hc=>⟨rfl,e,_,⟨_,hput.at_,hsize⟩,by omega⟩⟩
      simp only [List.getElem?_toArray]
      unfold Abs.spl at hj
      rw [List.append_assoc] at hj ⊢
      rcases Nat.lt_or_ge j (len * i.size) with h | h
      · rw [List.getElem?_append_left (by simp;omega),List.getElem?_take_of_lt h] at hj
        rw [List.getElem?_append_left (by simp;omega),List.getElem?_take_of_lt h]
        obtain ⟨u,p1,p2,p3⟩:=f2 j y hj
        exact ⟨u,by simpa using p1,p2,p3.ext hext⟩
      · rw [List.getElem?_append_right (by simp;omega),List.length_take,Nat.min_eq_left (by omega)] at hj
        rw [List.getElem?_append_right (by simp;omega),List.length_take,Nat.min_eq_left (by simp;omega)]
        rcases Nat.lt_or_ge (j - len * i.size) news.length with h' | h'
        · rw [List.getElem?_append_left (by omega)] at hj
          rw [List.getElem?_append_left h']
          obtain ⟨u,p1,p2,p3⟩:=hnews.2 _ y hj
          exact ⟨u,p1,p2,p3.ext hext⟩
        · rw [List.getElem?_append_right (by omega),List.getElem?_drop] at hj
          rw [List.getElem?_append_right h',List.getElem?_drop]
          rw [hfl] at hj
          obtain ⟨u,p1,p2,p3⟩:=f2 _ y hj
          exact ⟨u,by simpa using p1,p2,p3.ext hext⟩

theorem append_roomI (he : EnvS w ρ S) {t e ty : TypeId} (ht : P.underlying t = some (.slice e)) (hc1 : P.cellsOf e = 1) {k : IntKind} (hz : zeroOf P e = some (.int k 0)) {m : Nm} {L Y : List Int} {len cm : Nat}
    (hm : S m = some (.ints e k L)) (h1 : len + Y.length ≤ cm) (h2 : len + Y.length ≤ L.length) {sv xv : Value} (hs : VS w ρ S (.c (.win m 0 len cm)) sv) {x : AVal} (hx : VS w ρ S x xv) (hsrc : srcR S x 1 (ir k Y)) :
    ∃ v w',(Builtin.append_ #[t,t] ty #[sv,xv]).run P w = .ok v w'∧EnvS w' ρ (upd S m (.ints e k (L.take len ++ Y ++ L.drop (len + Y.length)))) ∧
      Ext (fun _=>False) w ρ S w' ρ (upd S m (.ints e k (L.take len ++ Y ++ L.drop (len + Y.length))))∧VS w' ρ (upd S m (.ints e k (L.take len ++ Y ++ L.drop (len + Y.length)))) (.c (.win m 0 (len + Y.length) cm)) v:=by
  obtain ⟨-,A,cap,rfl,q1,q2,q3⟩:=hs
  rcases srcR_held he (by omega) hx hsrc with ⟨hY0,A',c,rfl⟩ | ⟨hY,b,off,c,news,rfl,hnews,hcell⟩
  · have hY0 : Y = []:=by simpa using hY0
    subst hY0
    have e1 : L.take len ++ [] ++ L.drop (len + ([] : List Int).length) = L:=by simp
    rw [e1,upd_self hm]
    exact ⟨_,w,run_append_none ht (by omega) A A' len cap c (by omega) ty,he,Ext.refl _ _ _,⟨_,hm,rfl⟩,A,cap,rfl,by simpa using q1,q2,q3⟩
  · have hpos : 0 < Y.length:=List.length_pos_iff.2 (by intro e;exact hY (by rw [e];rfl))
    rw [flat_ir] at hnews
    have hnews' : news = Y.map (Value.int k):=by
      apply List.ext_getElem?
      intro j
      rcases Nat.lt_or_ge j Y.length with g | g
      · obtain ⟨u,p1,-,p3⟩:=hnews.2 j (.sc (.int k Y[j])) (by simp [intsOf])
        have : u = .int k Y[j]:=p3
        rw [p1,this,List.getElem?_map,List.getElem?_eq_getElem g];rfl
      · rw [List.getElem?_eq_none (by rw [← hnews.1];simpa [intsOf] using g),List.getElem?_eq_none (by simpa using g)]
    subst hnews'
    rw [show (ir k Y).length = Y.length from List.length_map ..]
    obtain ⟨rfl,ty2,sz,⟨cur2,g1,g2⟩,g3⟩:=q3 (by omega)
    obtain ⟨cur,f1,f2⟩:=he.obj m _ hm
    rw [f1] at g1
    injection g1 with g1
    injection g1 with g1 g4
    subst g1 g4
    cases ei : P.info? e with
    | none=>simp [zeroOf,ei] at hz
    | some i =>
      have hsz : i.size = 1:=by simpa [Program.cellsOf,ei] using hc1
      have hrun:=run_append_room (P:=P) w t ty e i ht ei (ρ m) len cap cur f1 ⟨b,off,none⟩ (ir k Y).length c (Y.map (Value.int k)) (by simp [hsz]) (fun j u hj=>by rw [add_pl];exact hcell j u hj)
        (fun u hu=>by simp at hu;obtain ⟨y,-,rfl⟩:=hu;rfl) (by simp;omega) (by simp [hsz];omega)
      rw [show (ir k Y).length = Y.length from List.length_map ..] at hrun
      have hput:=Put.of_setRow f1 (cur.toList.take (len * i.size) ++ Y.map (Value.int k) ++ cur.toList.drop (len * i.size + (Y.map (Value.int k)).length)).toArray
      have hsize : (cur.toList.take (len * i.size) ++ Y.map (Value.int k) ++ cur.toList.drop (len * i.size + (Y.map (Value.int k)).length)).toArray.size = cur.size:=by
        simp [hsz];omega
      have hext:=hput.ext (o':=.ints e k (L.take len ++ Y ++ L.drop (len + Y.length))) hm rfl rfl f1 hsize
      refine ⟨_,_,hrun,hput.env he hm rfl rfl f1 hsize ⟨_,hput.at_,fun j y hj=>?_⟩,hext,⟨_,upd_same _ _ _,rfl⟩,_,cap,rfl,h1,q2,fun hc=>⟨rfl,e,_,⟨_,hput.at_,hsize⟩,by omega⟩⟩
      simp only [hsz,Nat.mul_one,List.length_map,List.getElem?_toArray]
      rw [List.append_assoc] at hj ⊢
      rcases Nat.lt_or_ge j len with h | h
      · rw [List.getElem?_append_left (by simp;omega),List.getElem?_take_of_lt h] at hj
        rw [List.getElem?_append_left (by simp;omega),List.getElem?_take_of_lt h]
        simpa using f2 j y hj
      · rw [List.getElem?_append_right (by simp;omega),List.length_take,Nat.min_eq_left (by omega)] at hj
        rw [List.getElem?_append_right (by simp;omega),List.length_take,Nat.min_eq_left (by simp;omega)]
        rcases Nat.lt_or_ge (j - len) Y.length with h' | h'
        · rw [List.getElem?_append_left h'] at hj
          rw [List.getElem?_append_left (by simpa using h'),List.getElem?_map,hj];rfl
        · rw [List.getElem?_append_right h',List.getElem?_drop] at hj
          rw [List.getElem?_append_right (by simpa using h'),List.getElem?_drop,List.length_map]
          have:=f2 _ y hj
          simpa using this

/-! ### Copies -/
def copyE (P : Program) (r : Operand→AVal) (S : Store) (c : Call) (v : AVal) (S' : Store) : Prop :=
  match c.args.toList,c.argTypes.toList with
  | [s,x],[t,_]=>∃ e k Y m off len cm cs,P.underlying t = some (.slice e)∧P.cellsOf e = k∧0 < k∧r s = .c (.win m off len cm)∧srcR S (r x) k Y∧S m = some (.cells e cs)∧off + min Y.length len * k ≤ cs.length ∧
      v = ivl .i64 ((min Y.length len : Nat) : Int)∧S' = upd S m (.cells e (spl cs off (Y.take (min Y.length len)).flatten))
  | _,_=>False

theorem flatten_take {sz : Nat} : ∀ {Y : List (List Cell)},(∀ c ∈ Y,c.length = sz)→∀ n,(Y.take n).flatten = Y.flatten.take (n * sz)
  | [],_,n=>by simp
  | y :: Y,h,0=>by simp
  | y :: Y,h,n + 1=>by
    have h1 : y.length = sz:=h y (by simp)
    rw [List.take_succ_cons,List.flatten_cons,List.flatten_cons,flatten_take (fun c hc=>h c (by simp [hc])) n,List.take_append,h1,List.take_of_length_le (l:=y) (by rw [h1,Nat.succ_mul];omega),Nat.succ_mul,Nat.add_sub_cancel]

theorem copyE_run (he : EnvS w ρ S) (hr : ∀ x,VS w ρ S (r x) (η x)) {args : Array Operand} {tys : Array TypeId} {cl : Callee} {ty : TypeId} {v : AVal} {S' : Store} (h : copyE P r S ⟨cl,args,tys⟩ v S') :
    ∃ u w',(Builtin.copy_ tys ty (args.map η)).run P w = .ok u w'∧EnvS w' ρ S'∧Ext (fun _=>False) w ρ S w' ρ S'∧VS w' ρ S' v u:=by
  unfold copyE at h
  split at h
  · rename_i s x t t' ea et
    obtain ⟨e,k,Y,m,off,len,cm,cs,ht,hc1,hk,es,hsrc,hm,hroom,rfl,rfl⟩:=h
    have ea' : args = #[s,x]:=by rw [← Array.toList_inj];simpa using ea
    have et' : tys = #[t,t']:=by rw [← Array.toList_inj];simpa using et
    subst ea' et'
    have hs:=hr s
    rw [es] at hs
    have hx:=hr x
    have hYz:=srcR_len he hx hsrc
    obtain ⟨-,A,cap,e1,q1,q2,q3⟩:=hs
    have hce : P.cellsOf e ≠ 0:=by omega
    by_cases h0 : min Y.length len = 0
    · have e2 : spl cs off (Y.take (min Y.length len)).flatten = cs:=by simp [Abs.spl,h0]
      rw [e2,upd_self hm,h0]
      have hu : ∃ B n c,η x = .slice B n c∧Nat.min n len = 0:=by
        rcases srcR_held he (by omega) hx hsrc with ⟨-,A',c,q⟩ | ⟨hY,b,off',c,news,q,-,-⟩
        · exact ⟨_,_,_,q,Nat.zero_min _⟩
        · exact ⟨_,_,_,q,h0⟩
      obtain ⟨B,n,c,q,hn⟩:=hu
      refine ⟨.int .i64 0,w,?_,he,Ext.refl _ _ _,rfl⟩
      have hl : ∀ a : Addr,(loadCells a 0).run P w = .ok #[] w:=fun a=>by simp [loadCells,loadCellsFrom]
      have hst : ∀ a : Addr,(storeCells a []).run P w = .ok () w:=fun a=>by simp [storeCells]
      simp only [Builtin.copy_,List.map_toArray,List.map_cons,List.map_nil,e1,q,Sem.run_bind,run_underlying' ht,Result.andThen_ok,Builtin.lenOf,Sem.run_pure,hn,run_sizeOf' hce,Builtin.firstCells]
      cases B <;> cases A <;> simp [hl,hst,run_underlying' ht,Builtin.lenOf,hn,run_sizeOf' hce,Builtin.firstCells,goInt]
    · rcases srcR_held he (by omega) hx hsrc with ⟨rfl,-⟩ | ⟨hY,b,off',c,news,q,hnews,hcell⟩
      · simp at h0
      · have hnl : news.length = Y.length * k:=by rw [← hnews.1,flat_len hYz]
        obtain ⟨n,hnd⟩ : ∃ n,n = min Y.length len:=⟨_,rfl⟩
        rw [← hnd] at hroom h0 ⊢
        have hn1 : n ≤ Y.length:=by omega
        have hn2 : n ≤ len:=by omega
        have hnk : n * k ≤ news.length:=by rw [hnl];exact Nat.mul_le_mul_right _ hn1
        obtain ⟨rfl,ty2,q',⟨cur2,g1,g2⟩,g3⟩:=q3 (by omega)
        obtain ⟨cur,f1,f0,f2⟩:=he.obj m _ hm
        have hW:=run_storeCells_at P (ρ m) off e (news.take (n * k)) 0 cur w f1 (by rw [List.length_take,Nat.min_eq_left hnk,f0];omega) (fun u hu=>by
          obtain ⟨j,hj,rfl⟩:=List.getElem_of_mem (List.mem_of_mem_take hu)
          obtain ⟨u',p1,p2,-⟩:=hnews.2 j _ (List.getElem?_eq_getElem (by rw [hnews.1];exact hj))
          rw [List.getElem?_eq_getElem hj] at p1
          obtain rfl:=Option.some.inj p1
          exact p2)
        have hld:=run_loadCells_at (P:=P) (w:=w) b off' (news.take (n * k)) (fun j u hu=>by
          have hlt:=(List.getElem?_eq_some_iff.1 hu).1
          rw [List.length_take] at hlt
          rw [List.getElem?_take_of_lt (by omega)] at hu
          exact hcell j u hu)
        have hlen : (news.take (n * k)).length = n * k:=by rw [List.length_take,Nat.min_eq_left hnk]
        rw [hlen] at hld
        rw [Nat.add_zero,hlen] at hW
        have hput:=Put.of_setRow f1 (cur.toList.take off ++ news.take (n * k) ++ cur.toList.drop (off + n * k)).toArray
        generalize hWW : w.setRow (ρ m) (cur.toList.take off ++ news.take (n * k) ++ cur.toList.drop (off + n * k)).toArray = W at hW hput
        have hsize : (cur.toList.take off ++ news.take (n * k) ++ cur.toList.drop (off + n * k)).toArray.size = cur.size:=by
          simp only [List.size_toArray,List.length_append,List.length_take,List.length_drop,Array.length_toList,hlen,Nat.min_eq_left hnk];omega
        have hfl : (Y.take n).flatten = Y.flatten.take (n * k):=flatten_take hYz n
        have hfll : (Y.take n).flatten.length = n * k:=by rw [hfl,List.length_take,hnews.1,Nat.min_eq_left hnk]
        have hext:=hput.ext (o':=.cells e (spl cs off (Y.take n).flatten)) hm rfl rfl f1 hsize
        refine ⟨.int .i64 n,W,?_,hput.env he hm rfl rfl f1 hsize ⟨_,hput.at_,by rw [hsize,f0];simp only [Abs.spl,List.length_append,List.length_take,List.length_drop,hfll];omega,fun j y hj=>?_⟩,hext,rfl⟩
        · have hmin : Nat.min Y.length len = n:=hnd.symm
          simp only [Builtin.copy_,List.map_toArray,List.map_cons,List.map_nil,e1,q,Sem.run_bind,run_underlying' ht,Result.andThen_ok,Builtin.lenOf,Sem.run_pure,hmin,run_sizeOf' hce,Builtin.firstCells]
          simp [hmin,hc1,run_underlying' ht,Builtin.lenOf,run_sizeOf' hce,Builtin.firstCells,hld,hW,goInt]
        · simp only [List.getElem?_toArray]
          unfold Abs.spl at hj
          rw [List.append_assoc] at hj ⊢
          rcases Nat.lt_or_ge j off with g | g
          · rw [List.getElem?_append_left (by simp;omega),List.getElem?_take_of_lt g] at hj
            rw [List.getElem?_append_left (by simp;omega),List.getElem?_take_of_lt g]
            obtain ⟨u,p1,p2,p3⟩:=f2 j y hj
            exact ⟨u,by simpa using p1,p2,p3.ext hext⟩
          · rw [List.getElem?_append_right (by simp;omega),List.length_take,Nat.min_eq_left (by omega)] at hj
            rw [List.getElem?_append_right (by simp;omega),List.length_take,Nat.min_eq_left (by simp;omega)]
            rcases Nat.lt_or_ge (j - off) (n * k) with g' | g'
            · rw [List.getElem?_append_left (by rw [hfll];exact g'),hfl,List.getElem?_take_of_lt g'] at hj
              rw [List.getElem?_append_left (by rw [hlen];exact g'),List.getElem?_take_of_lt g']
              obtain ⟨u,p1,p2,p3⟩:=hnews.2 _ y hj
              exact ⟨u,p1,p2,p3.ext hext⟩
            · rw [List.getElem?_append_right (by rw [hfll];exact g'),List.getElem?_drop,hfll] at hj
              rw [List.getElem?_append_right (by rw [hlen];exact g'),List.getElem?_drop,hlen]
              rw [show off + n * k + (j - off - n * k) = j by omega] at hj ⊢
              obtain ⟨u,p1,p2,p3⟩:=f2 j y hj
              exact ⟨u,by simpa using p1,p2,p3.ext hext⟩
  · exact h.elim
end
end Go.Abs

/-
  One operation, whatever it is: what it does to a state; that the program does so.
-/
namespace Go.Abs
open Go

def updL : Store→List (Nm × AObj)→Store
  | S,[]=>S
  | S,p :: ups=>updL (upd S p.1 p.2) ups

def VSs (w : World) (ρ : Nm→Nat) (S : Store) (xs : List AVal) (vs : List Value) : Prop :=
  xs.length = vs.length∧∀ (i : Nat) (x : AVal),xs[i]? = some x→∃ u,vs[i]? = some u∧VS w ρ S x u

inductive Rch (Φ : Store) (args : List AVal) : Nm→Prop
  | base {x : AVal} {m : Nm} (h : x ∈ args) (hm : x.at m) : Rch Φ args m
  | step {m q : Nm} {o : AObj} {c : Cell} (h : Rch Φ args m) (ho : Φ m = some o) (hc : c ∈ o.cls) (hq : c.at q) : Rch Φ args q
theorem Rch.of {Φ : Store} {args : List AVal} {m : Nm} (h : ∃ x ∈ args,x.at m) : Rch Φ args m:=by obtain ⟨x,hx,hm⟩:=h;exact .base hx hm
theorem Rch.mono {Φ : Store} {xs ys : List AVal} (hxy : ∀ m,(∃ y ∈ ys,y.at m)→∃ x ∈ xs,x.at m) {m : Nm} (h : Rch Φ ys m) : Rch Φ xs m:=by
  induction h with
  | base h hm=>exact .of (hxy _ ⟨_,h,hm⟩)
  | step h ho hc hq ih=>exact .step ih ho hc hq

def ACalls (P : Program) (f : FuncId) (args : List AVal) (Φ : Store) (res : Nm→AVal) (ups : Nm→List (Nm × AObj)) : Prop :=
  ∀ (n : Nm) (S : Store),(∀ m,Rch Φ args m→S m = Φ m)→S n = none→(∀ i,S (.fam n i) = none)→∀ (w : World) (ρ : Nm→Nat) (vs : List Value),EnvS w ρ S→Globs w ρ S→VSs w ρ S args vs →
    ((callFunc f vs.toArray).run P w = .ok (.enter f vs.toArray) w∧Calls P f vs.toArray w fun e w'=>∃ ρ' v,e = .returned v∧EnvS w' ρ' (updL S (ups n))∧Ext (fun _=>False) w ρ S w' ρ' (updL S (ups n))∧VS w' ρ' (updL S (ups n)) (res n) v) ∨
    (∃ v,(callFunc f vs.toArray).run P w = .ok (.value v) w∧VS w ρ S (res n) v∧ups n = [])

def LLe (x y : Leaf) : Prop :=
  x = y ∨ (∃ k,x = .sc (.slice none 0 0)∧y = .ints k []) ∨ (∃ k L n,x = .intc k L n∧n ≤ L.length∧y = .ints k (L.take n)) ∨ (∃ sz,x = .sc (.slice none 0 0)∧y = .seq sz []) ∨ (∃ a b,x = .fx a∧y = .fx b∧∀ v,FXS a v→FXS b v)
def LsLe (L L' : List (List Leaf)) : Prop :=
  L.length = L'.length∧∀ (i : Nat) c c',L[i]? = some c→L'[i]? = some c'→c.length = c'.length∧∀ (j : Nat) x y,c[j]? = some x→c'[j]? = some y→LLe x y
def CLe (x y : Cell) : Prop :=
  x = y ∨ (∃ k,x = .sc (.slice none 0 0)∧y = .ints k []) ∨ (∃ k L n,x = .intc k L n∧n ≤ L.length∧y = .ints k (L.take n)) ∨ (∃ sz,x = .sc (.slice none 0 0)∧y = .seq sz []) ∨
    (∃ sz L L' n,x = .seqc sz L n∧n ≤ L.length∧y = .seq sz L'∧LsLe (L.take n) L') ∨ (∃ sz L L',x = .seq sz L∧y = .seq sz L'∧LsLe L L') ∨ (∃ a b,x = .fx a∧y = .fx b∧∀ v,FXS a v→FXS b v)
def ALe : AVal→AVal→Prop
  | .c x,.c y=>CLe x y
  | .agg xs,.agg ys=>xs.length = ys.length∧∀ (i : Nat) (x y : Cell),xs[i]? = some x→ys[i]? = some y→CLe x y
  | x,y=>x = y
def ALes : List AVal→List AVal→Prop
  | [],[]=>True
  | x :: xs,y :: ys=>ALe x y∧ALes xs ys
  | _,_=>False

theorem CLe.refl (x : Cell) : CLe x x:=.inl rfl
theorem ALe.refl (x : AVal) : ALe x x:=by
  cases x with
  | c x=>exact CLe.refl x
  | agg xs=>exact ⟨rfl,fun i x y h1 h2=>by rw [h1] at h2;exact .inl (Option.some.inj h2)⟩
  | fn f cs=>rfl
  | accv m n=>rfl
  | accp m o=>rfl
  | tup xs=>rfl

section
variable {P : Program} {w : World} {ρ : Nm→Nat} {S : Store}

theorem LLe.held {F : Nat→Prop} {x y : Leaf} {u : Value} (h : LLe x y) (hx : LeafS w F x u) : LeafS w F y u:=by
  rcases h with rfl | ⟨k,rfl,rfl⟩ | ⟨k,L,n,rfl,hn,rfl⟩ | ⟨sz,rfl,rfl⟩ | ⟨p,q,rfl,rfl,hl⟩
  · exact hx
  · cases hx
    exact .ints ⟨none,0,rfl,Nat.le_refl _,Nat.le_refl _,fun h=>by simp at h⟩
  · cases hx with
    | intc hx =>
      obtain ⟨A,cap,rfl,h1,h2,h3⟩:=hx
      have e : (L.take n).length = n:=by simp;omega
      refine .ints ⟨A,cap,by rw [e],Nat.le_refl _,by omega,fun hl=>?_⟩
      obtain ⟨b,off,e1,e2,e3⟩:=h3 (by omega)
      refine ⟨b,off,e1,e2,fun i x hi=>e3 i x ?_⟩
      rcases Nat.lt_or_ge i n with q | q
      · rw [List.getElem?_take_of_lt q] at hi;exact hi
      · rw [List.getElem?_eq_none (by omega)] at hi;cases hi
  · cases hx
    exact leafS_seq ⟨none,0,rfl,Nat.le_refl _,Nat.le_refl _,fun c hc=>by simp at hc,fun h=>by simp at h⟩
  · cases hx with | fx hx=>exact .fx (hl u hx)

theorem SeqS.le {F : Nat→Prop} {sz n : Nat} {L L' : List (List Leaf)} {u : Value} (hn : n ≤ L.length) (hl : LsLe (L.take n) L') (hx : SeqS w F sz L n u) : SeqS w F sz L' L'.length u:=by
  obtain ⟨A,cap,rfl,h1,h2,h3,h4⟩:=hx
  have e : (L.take n).length = n:=by simp;omega
  have e' : L'.length = n:=by rw [← hl.1,e]
  have hL : ∀ (i : Nat) (c' : List Leaf),L'[i]? = some c'→∃ c,L[i]? = some c∧(L.take n)[i]? = some c:=by
    intro i c' hi
    have hlt:=(List.getElem?_eq_some_iff.1 hi).1
    exact ⟨L[i],List.getElem?_eq_getElem (by omega),by rw [List.getElem?_take_of_lt (by omega)];exact List.getElem?_eq_getElem (by omega)⟩
  refine ⟨A,cap,by rw [e'],Nat.le_refl _,by omega,fun c' hc=>?_,fun hp=>?_⟩
  · obtain ⟨i,hi,rfl⟩:=List.getElem_of_mem hc
    obtain ⟨c,q1,q2⟩:=hL i _ (List.getElem?_eq_getElem hi)
    rw [← (hl.2 i c _ q2 (List.getElem?_eq_getElem hi)).1]
    exact h3 c (List.mem_of_getElem? q1)
  · obtain ⟨b,off,e1,e2,e3⟩:=h4 (by omega)
    refine ⟨b,off,e1,e2,fun i c' j y hi hj=>?_⟩
    obtain ⟨c,q1,q2⟩:=hL i _ hi
    obtain ⟨q3,q4⟩:=hl.2 i c _ q2 hi
    have hjl:=(List.getElem?_eq_some_iff.1 hj).1
    obtain ⟨u,p1,p2⟩:=e3 i c j _ q1 (List.getElem?_eq_getElem (by omega))
    exact ⟨u,p1,(q4 j _ y (List.getElem?_eq_getElem (by omega)) hj).held p2⟩

theorem CLe.held {x y : Cell} {u : Value} (h : CLe x y) (hx : CellS w ρ S x u) : CellS w ρ S y u:=by
  rcases h with rfl | ⟨k,rfl,rfl⟩ | ⟨k,L,n,rfl,hn,rfl⟩ | ⟨sz,rfl,rfl⟩ | ⟨sz,L,L',n,rfl,hn,rfl,hl⟩ | ⟨sz,L,L',rfl,rfl,hl⟩ | ⟨p,q,rfl,rfl,hl⟩
  · exact hx
  · have : u = _:=hx
    exact ⟨none,0,this,Nat.le_refl _,Nat.le_refl _,fun h=>by simp at h⟩
  · obtain ⟨A,cap,rfl,h1,h2,h3⟩:=hx
    have e : (L.take n).length = n:=by simp;omega
    refine ⟨A,cap,by rw [e],Nat.le_refl _,by omega,fun hl=>?_⟩
    obtain ⟨b,off,e1,e2,e3⟩:=h3 (by omega)
    refine ⟨b,off,e1,e2,fun i x hi=>e3 i x ?_⟩
    rcases Nat.lt_or_ge i n with q | q
    · rw [List.getElem?_take_of_lt q] at hi;exact hi
    · rw [List.getElem?_eq_none (by omega)] at hi;cases hi
  · have : u = _:=hx
    exact ⟨none,0,this,Nat.le_refl _,Nat.le_refl _,fun c hc=>by simp at hc,fun h=>by simp at h⟩
  · exact SeqS.le hn hl hx
  · exact SeqS.le (Nat.le_refl _) (by rw [List.take_length];exact hl) hx
  · exact hl u hx

theorem ALe.held {x y : AVal} {u : Value} (h : ALe x y) (hx : VS w ρ S x u) : VS w ρ S y u:=by
  cases x <;> cases y <;> simp only [ALe] at h <;> first
    | (cases h;done)
    | (cases h;exact hx)
    | exact h.held hx
    | (obtain ⟨h1,h2⟩:=h
       obtain ⟨vs,rfl,h3,h4⟩:=hx
       refine ⟨vs,rfl,by omega,fun i y hy=>?_⟩
       rename_i xs ys
       have hlt : i < xs.length:=by
         rcases Nat.lt_or_ge i ys.length with q | q
         · omega
         · rw [List.getElem?_eq_none q] at hy;cases hy
       obtain ⟨u,p1,p2,p3⟩:=h4 i _ (List.getElem?_eq_getElem hlt)
       exact ⟨u,p1,p2,(h2 i _ y (List.getElem?_eq_getElem hlt) hy).held p3⟩)

theorem ALes.held : ∀ {xs ys : List AVal} {us : List Value},ALes xs ys→VSs w ρ S xs us→VSs w ρ S ys us
  | [],[],us,_,h=>h
  | x :: xs,y :: ys,us,⟨h1,h2⟩,⟨h3,h4⟩=>by
    match us with
    | []=>simp at h3
    | u :: us =>
      have ih:=ALes.held h2 ⟨by simpa using h3,fun i z hz=>h4 (i + 1) z (by simpa using hz)⟩
      refine ⟨by have:=ih.1;simp [this],fun i z hz=>?_⟩
      match i with
      | 0 =>
        simp only [List.getElem?_cons_zero,Option.some.injEq] at hz
        subst hz
        obtain ⟨u',e,hv⟩:=h4 0 x rfl
        exact ⟨u',e,h1.held hv⟩
      | i + 1=>exact ih.2 i z (by simpa using hz)

theorem CLe.at {x y : Cell} {m : Nm} (h : CLe x y) (hy : y.at m) : x.at m:=by
  rcases h with rfl | ⟨k,rfl,rfl⟩ | ⟨k,L,n,rfl,hn,rfl⟩ | ⟨sz,rfl,rfl⟩ | ⟨sz,L,L',n,rfl,hn,rfl,hl⟩ | ⟨sz,L,L',rfl,rfl,hl⟩ | ⟨p,q,rfl,rfl,hl⟩
  · exact hy
  all_goals exact hy.elim
theorem ALe.at {x y : AVal} {m : Nm} (h : ALe x y) (hy : y.at m) : x.at m:=by
  cases x <;> cases y <;> simp only [ALe] at h <;> first
    | (cases h;done)
    | (cases h;exact hy)
    | exact h.at hy
    | (obtain ⟨h1,h2⟩:=h
       rename_i xs ys
       obtain ⟨y,hy1,hy2⟩:=hy
       obtain ⟨i,hi,rfl⟩:=List.getElem_of_mem hy1
       have hlt : i < xs.length:=by omega
       exact ⟨xs[i],List.getElem_mem hlt,(h2 i _ _ (List.getElem?_eq_getElem hlt) (List.getElem?_eq_getElem hi)).at hy2⟩)
theorem ALes.at : ∀ {xs ys : List AVal} {m : Nm},ALes xs ys→(∃ y ∈ ys,y.at m)→∃ x ∈ xs,x.at m
  | [],[],m,_,h=>h
  | x :: xs,y :: ys,m,⟨h1,h2⟩,⟨z,hz,hm⟩=>by
    rcases List.mem_cons.1 hz with rfl | hz
    · exact ⟨x,List.mem_cons_self,h1.at hm⟩
    · obtain ⟨z',e,q⟩:=ALes.at h2 ⟨z,hz,hm⟩
      exact ⟨z',List.mem_cons_of_mem _ e,q⟩
end

def nmOf : Option Nat→Nm
  | some d=>.loc d
  | none=>.new

def callE (P : Program) (mu : FuncId→Bool) (S : Store) (d : Option Nat) (fv : AVal) (xs : List AVal) (v : AVal) (S' : Store) : Prop :=
  ∃ f caps args Φ res ups,fv = .fn f caps∧ALes (xs ++ caps.map .c) args∧ACalls P f args Φ res ups∧(∀ m,Rch Φ args m→S m = Φ m)∧(S (nmOf d) = none∧∀ i,S (.fam (nmOf d) i) = none) ∧
    v = res (nmOf d)∧S' = updL S (ups (nmOf d)) ∧
    (∀ p ∈ ups (nmOf d),p.1 = nmOf d ∨ (∃ i,p.1 = .fam (nmOf d) i) ∨ (mu f = true∧Rch Φ args p.1))∧(ups (nmOf d) = [] ∨ (mu f = true) ∨ ∃ k o,d = some k∧ups (nmOf d) = [(nmOf d,o)]) ∧
    (∀ m,(res (nmOf d)).at m→(∃ o,(m,o) ∈ ups (nmOf d)) ∨ Rch Φ args m) ∧
    (∀ p ∈ ups (nmOf d),∀ x ∈ p.2.cls,∀ m,x.at m→(∃ o,(m,o) ∈ ups (nmOf d)) ∨ Rch Φ args m)

inductive Kind where
  | pure | read | new | write | app
  deriving DecidableEq

def kindC (mu : FuncId→Bool) (c : Call) : Kind :=
  match c.callee with
  | .value x=>match x with | .func f=>if mu f then .write else .read | _=>.write
  | .invoke ..=>.write
  | .builtin b=>match b with | .append=>.app | .copy=>.app | _=>.pure

def kind (mu : FuncId→Bool) : Op→Kind
  | .load ..=>.read
  | .store ..=>.write
  | .alloc _=>.new
  | .box ..=>.new
  | .buildSlice ..=>.new
  | .makeSlice ..=>.new
  | .call c=>kindC mu c
  | _=>.pure

def eff (P : Program) (mu : FuncId→Bool) (fr : Fram) (S : Store) (o : Oper) (v : AVal) (S' : Store) : Prop :=
  match o.op with
  | .load t a=>loadE P S t (look fr a) v∧S' = S
  | .store t a x=>storeE P S t (look fr a) (look fr x) S'∧v = .c (.sc undef)
  | .alloc e=>∃ d ob,o.dst = some d∧S (.loc d) = none∧newE P (look fr) d (.alloc e) v ob∧S' = upd S (.loc d) ob
  | .box e x=>∃ d ob,o.dst = some d∧S (.loc d) = none∧newE P (look fr) d (.box e x) v ob∧S' = upd S (.loc d) ob
  | .buildSlice t n ps=>∃ d ob,o.dst = some d∧S (.loc d) = none∧newE P (look fr) d (.buildSlice t n ps) v ob∧S' = upd S (.loc d) ob
  | .makeSlice t l c=>∃ d ob,o.dst = some d∧S (.loc d) = none∧newE P (look fr) d (.makeSlice t l c) v ob∧S' = upd S (.loc d) ob
  | .call c=>match c.callee with
    | .value f=>callE P mu S o.dst (look fr f) (c.args.toList.map (look fr)) v S'
    | _=>PE P (look fr) (.call c) v∧S' = S
  | op=>PE P (look fr) op v∧S' = S

def killF (n : Nm) : AVal→AVal
  | .accv m k=>if m = n then .c .junk else .accv m k
  | .accp m k=>if m = n then .c .junk else .accp m k
  | x=>x

def appE (P : Program) (fr : Fram) (S : Store) (d : Nat) (c : Call) (v : AVal) (n : Nm) (S' : Store) : Prop :=
  match c.args.toList,c.argTypes.toList with
  | [s,x],[t,t']=>t = t'∧∃ e k Y zv,P.underlying t = some (.slice e)∧P.cellsOf e = k∧0 < k∧zeroOf P e = some zv∧zv.cells.size = k∧srcR S (look fr x) k Y ∧
      match look fr s with
      | .c (.win m 0 len cm)=>n = m∧len + Y.length ≤ cm∧v = .c (.win m 0 (len + Y.length) cm) ∧
          ((∃ ki L Y',S m = some (.ints e ki L)∧k = 1∧zv = .int ki 0∧Y = ir ki Y'∧len + Y.length ≤ L.length∧S' = upd S m (.ints e ki (L.take len ++ Y' ++ L.drop (len + Y'.length)))) ∨
           (∃ cs,S m = some (.cells e cs)∧(len + Y.length) * k ≤ cs.length∧S' = upd S m (.cells e (spl cs (len * k) Y.flatten))))
      | .accv m len=>v = .accv n (len + Y.length)∧n = m∧∃ L,L.length = len∧S m = some (.acc e k L)∧(L.length + Y.length) * P.bytesOf e ≤ 140737488355328∧L.length + Y.length ≤ maxLen∧S' = upd S m (.acc e k (L ++ Y))∧n.isOut = false
      | .c (.sc (.slice none 0 0))=>v = .accv n Y.length∧n = .loc d∧S (.loc d) = none∧Y.length * P.bytesOf e ≤ 140737488355328∧Y.length ≤ maxLen∧S' = upd S (.loc d) (.acc e k Y)
      | _=>False
  | _,_=>False

def aExec (P : Program) (mu : FuncId→Bool) (o : Oper) (st st' : St) : Prop :=
  match o.op with
  | .call c=>if kindC mu c = .app then (∃ d v n S',c.callee = .builtin .append∧o.dst = some d∧appE P st.fr st.sg d c v n S'∧st' = ⟨putF (fun t=>killF n (st.fr t)) (some d) v,S'⟩) ∨
        ∃ v S',c.callee = .builtin .copy∧copyE P (look st.fr) st.sg c v S'∧st' = ⟨putF st.fr o.dst v,S'⟩
      else ∃ v S',eff P mu st.fr st.sg o v S'∧st' = ⟨putF st.fr o.dst v,S'⟩
  | _=>∃ v S',eff P mu st.fr st.sg o v S'∧st' = ⟨putF st.fr o.dst v,S'⟩

def yA (ops : Array Oper) (fr : Fram) (j : Nat) : Option (Option Bool) :=
  match (ops[j]?).bind (·.dst) with
  | some t=>match fr t with
    | .c (.sc (.bool b))=>some (some b)
    | .c (.sc (.tuple _))=>some none
    | _=>none
  | none=>some none

def aStep (P : Program) (mu : FuncId→Bool) (ops : Array Oper) (o : Oper) (st st' : St) : Prop :=
  match o.guard with
  | none=>aExec P mu o st st'
  | some (j,want)=>match yA ops st.fr j with
    | some (some b)=>(b = want→aExec P mu o st st')∧(b ≠ want→st' = ⟨putF st.fr o.dst (.c (.sc undef)),st.sg⟩)
    | some none=>st' = ⟨putF st.fr o.dst (.c (.sc undef)),st.sg⟩
    | none=>False

/-! ### The program does so -/
section
variable {P : Program} {mu : FuncId→Bool} {w : World} {ρ : Nm→Nat} {st st' : St} {a : Act}

theorem Sim.look (h : Sim w ρ st a.tmps) (x : Operand) : VS w ρ st.sg (look st.fr x) (a.eval x):=by
  cases x with
  | tmp t=>exact h.fr t
  | const v=>exact cellC_S v
  | global g =>
    simp only [Abs.look]
    split
    · rename_i cs e;exact h.gl g cs e
    · trivial
  | func f=>exact ⟨#[],rfl,rfl,fun i x hi=>by simp at hi⟩

theorem Sim.put {w' : World} {ρ' : Nm→Nat} {X : Nm→Prop} {S' : Store} (h : Sim w ρ st a.tmps) (he : EnvS w' ρ' S') (hx : Ext X w ρ st.sg w' ρ' S') (fr : Fram)
    (hfr : ∀ t,fr t = .c .junk ∨ (fr t = st.fr t∧∀ m,X m→∀ o,fr t ≠ .accv m o∧fr t ≠ .accp m o)) {d : Option Nat} (hd : ∀ t,d = some t→t < a.tmps.size) {v : AVal} {u : Value} (hv : VS w' ρ' S' v u) :
    Sim w' ρ' ⟨putF fr d v,S'⟩ (a.put d u).tmps:=by
  refine ⟨he.inj,he.obj,fun t=>?_,h.gl.ext hx⟩
  have old : VS w' ρ' S' (fr t) (a.tmps.getD t undef):=by
    rcases hfr t with e | ⟨e,hm⟩
    · rw [e];trivial
    · rw [e] at hm ⊢;exact (h.fr t).ext hx hm
  cases d with
  | none=>exact old
  | some d =>
    simp only [putF,Act.put]
    by_cases e : t = d
    · subst e
      simp only [if_true]
      have hlt:=hd t rfl
      simpa [Array.getD_eq_getD_getElem?,hlt] using hv
    · simp only [if_neg e]
      have e' : d ≠ t:=fun q=>e q.symm
      simpa [Array.getD_eq_getD_getElem?,Array.getElem?_setIfInBounds_ne e'] using old

def StepTo (w : World) (ρ : Nm→Nat) (st st' : St) (a : Act) (d : Option Nat) (K : Act→World→Prop) : Prop :=
  ∀ w' ρ' u X,Sim w' ρ' st' (a.put d u).tmps→Ext X w ρ st.sg w' ρ' st'.sg→(∀ m,X m→m.isOut = false)→K (a.put d u) w'

theorem eff_sound (h : Sim w ρ st a.tmps) {o : Oper} (hd : ∀ t,o.dst = some t→t < a.tmps.size) {v : AVal} {S' : Store} (he : eff P mu st.fr st.sg o v S') {K : Act→World→Prop} {Q : Exit→Act→World→Prop}
    (hK : StepTo w ρ st ⟨putF st.fr o.dst v,S'⟩ a o.dst K) : o.wp P a w K Q:=by
  have hr:=h.look
  have keep : ∀ {w' : World} {ρ' : Nm→Nat} {u : Value} {S' : Store},EnvS w' ρ' S'→Ext (fun _=>False) w ρ st.sg w' ρ' S'→VS w' ρ' S' v u→StepTo w ρ st ⟨putF st.fr o.dst v,S'⟩ a o.dst K→K (a.put o.dst u) w' :=
    fun e1 e2 e3 hK=>hK _ _ _ _ (h.put e1 e2 st.fr (fun t=>.inr ⟨rfl,fun _ hX=>hX.elim⟩) hd e3) e2 (fun _ hX=>hX.elim)
  have plain : PE P (Abs.look st.fr) o.op v→S' = st.sg→o.wp P a w K Q:=by
    intro h1 h2
    subst h2
    obtain ⟨u,n,h3,h4⟩:=PE_run (w:=w) (ρ:=ρ) (S:=st.sg) hr h1
    unfold Oper.wp
    rw [h3]
    have hx:=Ext.drawn w ρ st.sg n
    have h5 : VS { w with drawn:=n } ρ st.sg v u:=h4.ext hx (fun _ h=>h.elim)
    exact keep ⟨h.env.inj,fun m o hm=>(h.env.obj m o hm).drawn n⟩ hx h5 hK
  have made : ∀ d ob,o.dst = some d→st.sg (.loc d) = none→newE P (Abs.look st.fr) d o.op v ob→S' = upd st.sg (.loc d) ob→o.wp P a w K Q:=by
    intro d ob h1 h2 h3 h4
    subst h4
    obtain ⟨u,vs,ty,h5,h6,h7⟩:=newE_run h.env hr h2 h3
    unfold Oper.wp
    rw [h5]
    exact keep h6 ((New.of_alloc w (.loc d) (.cells vs ty)).ext h.env h2 ob) h7 hK
  obtain ⟨dst,op,ty,pos,after,guard⟩:=o
  cases op with
  | load t x =>
    obtain ⟨h1,rfl⟩:=he
    obtain ⟨u,h2,h3⟩:=loadE_run (P:=P) h.env (hr x) h1
    unfold Oper.wp
    rw [show (execOp a.eval ⟨dst,.load t x,ty,pos,after,guard⟩).run P w = .ok (.value u) w from run_then h2 _]
    exact keep h.env (Ext.refl _ _ _) h3 hK
  | store t x y =>
    obtain ⟨h1,rfl⟩:=he
    obtain ⟨w',h2,h3,h4⟩:=storeE_run h.env (hr x) (hr y) h1
    unfold Oper.wp
    rw [show (execOp a.eval ⟨dst,.store t x y,ty,pos,after,guard⟩).run P w = .ok .skip w' by simp [execOp,h2]]
    exact keep h3 h4 (rfl : undef = undef) hK
  | alloc e=>obtain ⟨d,ob,h1,h2,h3,h4⟩:=he;exact made d ob h1 h2 h3 h4
  | box e x=>obtain ⟨d,ob,h1,h2,h3,h4⟩:=he;exact made d ob h1 h2 h3 h4
  | buildSlice t n ps=>obtain ⟨d,ob,h1,h2,h3,h4⟩:=he;exact made d ob h1 h2 h3 h4
  | makeSlice t l c=>obtain ⟨d,ob,h1,h2,h3,h4⟩:=he;exact made d ob h1 h2 h3 h4
  | call c =>
    obtain ⟨callee,args,tys⟩:=c
    cases callee with
    | value f =>
      obtain ⟨g,caps,as',Φ,res,ups,h1,h2,h3,h4,h5,rfl,rfl,-⟩:=he
      have hf:=hr f
      rw [h1] at hf
      obtain ⟨cv,hf1,hf2⟩:=hf
      have hargs : VSs w ρ st.sg (args.toList.map (Abs.look st.fr) ++ caps.map .c) ((args.map a.eval) ++ cv).toList:=by
        refine ⟨by simp [hf2.1],fun i x hi=>?_⟩
        rcases Nat.lt_or_ge i args.size with q | q
        · rw [List.getElem?_append_left (by simpa using q),List.getElem?_map] at hi
          cases e : args.toList[i]? with
          | none=>rw [e] at hi;cases hi
          | some y =>
            rw [e] at hi
            simp only [Option.map_some,Option.some.injEq] at hi
            subst hi
            refine ⟨a.eval y,?_,hr y⟩
            rw [Array.toList_append,List.getElem?_append_left (by simpa using q)]
            simp [e]
        · rw [List.getElem?_append_right (by simpa using q),List.getElem?_map] at hi
          cases e : caps[i - (args.toList.map (Abs.look st.fr)).length]? with
          | none=>rw [e] at hi;cases hi
          | some y =>
            rw [e] at hi
            simp only [Option.map_some,Option.some.injEq] at hi
            subst hi
            obtain ⟨u,p1,p2,p3⟩:=hf2.2 _ _ e
            refine ⟨u,?_,p3⟩
            rw [Array.toList_append,List.getElem?_append_right (by simpa using q)]
            simpa using p1
      have hh:=h3 (nmOf dst) st.sg h4 h5.1 h5.2 w ρ _ h.env h.gl (h2.held hargs)
      rw [Array.toArray_toList] at hh
      unfold Oper.wp
      rcases hh with ⟨hrun,hc⟩ | ⟨u,hrun,hv,hu⟩
      · rw [show (execOp a.eval ⟨dst,.call ⟨.value f,args,tys⟩,ty,pos,after,guard⟩).run P w = .ok (.enter g (args.map a.eval ++ cv)) w by
          simp [execOp,resolve,Deferred.ofValue,hf1,invoke,hrun]]
        refine hc.mono fun e w' ⟨ρ',u,he,h6,h7,h8⟩=>?_
        subst he
        exact keep h6 h7 h8 hK
      · rw [show (execOp a.eval ⟨dst,.call ⟨.value f,args,tys⟩,ty,pos,after,guard⟩).run P w = .ok (.value u) w by
          simp [execOp,resolve,Deferred.ofValue,hf1,invoke,hrun]]
        rw [hu] at hK
        exact keep h.env (Ext.refl _ _ _) hv hK
    | invoke rc m=>obtain ⟨h1,h2⟩:=he;exact plain h1 h2
    | builtin b=>obtain ⟨h1,h2⟩:=he;exact plain h1 h2
  | _=>obtain ⟨h1,h2⟩:=he;exact plain h1 h2

theorem killF_cases (n : Nm) (x : AVal) : killF n x = .c .junk ∨ (killF n x = x∧∀ m,m = n→∀ o,killF n x ≠ .accv m o∧killF n x ≠ .accp m o):=by
  cases x with
  | accv m k =>
    simp only [killF]
    split
    · exact .inl rfl
    · rename_i h
      refine .inr ⟨rfl,fun q hq o=>⟨fun e=>?_,fun e=>(by cases e)⟩⟩
      injection e with e
      exact h (by rw [e,hq])
  | accp m k =>
    simp only [killF]
    split
    · exact .inl rfl
    · rename_i h
      refine .inr ⟨rfl,fun q hq o=>⟨fun e=>(by cases e),fun e=>?_⟩⟩
      injection e with e
      exact h (by rw [e,hq])
  | _=>exact .inr ⟨rfl,fun m _ o=>⟨fun e=>(by cases e),fun e=>(by cases e)⟩⟩

theorem appE_sound (h : Sim w ρ st a.tmps) {o : Oper} {c : Call} (ho : o.op = .call c) (hk : c.callee = .builtin .append) {d : Nat} (hod : o.dst = some d) (hd : d < a.tmps.size) {v : AVal} {n : Nm} {S' : Store}
    (he : appE P st.fr st.sg d c v n S') {K : Act→World→Prop} {Q : Exit→Act→World→Prop}
    (hK : StepTo w ρ st ⟨putF (fun t=>killF n (st.fr t)) (some d) v,S'⟩ a (some d) K) : o.wp P a w K Q:=by
  have hr:=h.look
  unfold appE at he
  split at he
  · rename_i s x t t' ea et
    obtain ⟨rfl,e,k,Y,zv,h1,h2,hk0,h3,hzk,h4,h5⟩:=he
    have ea' : c.args = #[s,x]:=by rw [← Array.toList_inj];simpa using ea
    have et' : c.argTypes = #[t,t]:=by rw [← Array.toList_inj];simpa using et
    have fin : ∀ {L : List (List Cell)} {u : Value} {w' : World} {ρ' : Nm→Nat},v = .accv n L.length→n.isOut = false→Grew w ρ st.sg n e k L u w' ρ'→S' = upd st.sg n (.acc e k L)→K (a.put (some d) u) w':=by
      intro L u w' ρ' hv hn hg hS
      subst hS
      subst hv
      exact hK _ _ _ _ (h.put hg.env hg.ext _ (fun t=>killF_cases n (st.fr t)) (fun t ht=>by injection ht with ht;subst ht;exact hd) hg.val) hg.ext (fun m hm=>by rw [hm];exact hn)
    have hexec : ∀ {u w'},(Builtin.append_ #[t,t] o.type #[a.eval s,a.eval x]).run P w = .ok u w'→(execOp a.eval o).run P w = .ok (.value u) w':=by
      intro u w' hrun
      simp [execOp,ho,resolve,hk,ea',et',invoke,builtin,hrun]
    have hs:=hr s
    split at h5
    · rename_i m len cm es
      obtain ⟨rfl,h7,rfl,⟨ki,L,Y',h6,rfl,rfl,rfl,h8,rfl⟩ | ⟨cs,h6,h8,rfl⟩⟩:=h5
      · rw [es] at hs
        have e0 : (ir ki Y').length = Y'.length:=List.length_map ..
        obtain ⟨u,w',hrun,g1,g2,g3⟩:=append_roomI (P:=P) (ty:=o.type) h.env h1 h2 h3 h6 (by rw [e0] at h7;exact h7) (by rw [e0] at h8;exact h8) hs (hr x) h4
        unfold Oper.wp
        rw [hexec hrun]
        show K (a.put o.dst u) w'
        rw [hod]
        rw [e0] at hK
        exact hK _ _ _ _ (h.put g1 g2 _ (fun t=>(killF_cases n (st.fr t)).imp (fun q=>q) (fun q=>⟨q.1,fun _ hX=>hX.elim⟩)) (fun t ht=>by injection ht with ht;subst ht;exact hd) g3) g2 (fun _ hX=>hX.elim)
      · rw [es] at hs
        obtain ⟨u,w',hrun,g1,g2,g3⟩:=append_room (P:=P) (ty:=o.type) h.env h1 h2 hk0 h3 h6 h7 h8 hs (hr x) h4
        unfold Oper.wp
        rw [hexec hrun]
        show K (a.put o.dst u) w'
        rw [hod]
        exact hK _ _ _ _ (h.put g1 g2 _ (fun t=>(killF_cases n (st.fr t)).imp (fun q=>q) (fun q=>⟨q.1,fun _ hX=>hX.elim⟩)) (fun t ht=>by injection ht with ht;subst ht;exact hd) g3) g2 (fun _ hX=>hX.elim)
    · rename_i m len es
      obtain ⟨hva,rfl,L,rfl,h6,h7,h8,h9,h10⟩:=h5
      rw [es] at hs
      obtain ⟨ty',k',L',q1,-,q2⟩:=hs
      rw [h6] at q1
      obtain ⟨rfl,rfl,rfl⟩ : e = ty'∧k = k'∧L = L':=by injection q1 with q1;injection q1 with a b c;exact ⟨a,b,c⟩
      obtain ⟨u,w',ρ',hrun,hg⟩:=append_grew (P:=P) (ty:=o.type) h.env h1 h2 hk0 h3 hzk (.inr h6) q2 (hr x) h4 h7 h8
      unfold Oper.wp
      rw [hexec hrun]
      show K (a.put o.dst u) w'
      rw [hod]
      exact fin (by rw [hva,List.length_append]) h10 hg h9
    · rename_i es
      obtain ⟨hva,rfl,h6,h7,h8,h9⟩:=h5
      rw [es] at hs
      have hs':=vs_sc hs
      obtain ⟨u,w',ρ',hrun,hg⟩:=append_grew (P:=P) (ty:=o.type) h.env h1 h2 hk0 h3 hzk (n:=.loc d) (L:=[]) (.inl ⟨h6,rfl⟩) (.inl ⟨rfl,none,hs'⟩) (hr x) h4 (by simpa using h7) (by simpa using h8)
      unfold Oper.wp
      rw [hexec hrun]
      show K (a.put o.dst u) w'
      rw [hod]
      exact fin hva rfl hg h9
    · exact h5.elim
  · exact he.elim

theorem aExec_sound (h : Sim w ρ st a.tmps) {o : Oper} (hd : ∀ t,o.dst = some t→t < a.tmps.size) (he : aExec P mu o st st') {K : Act→World→Prop} {Q : Exit→Act→World→Prop}
    (hK : StepTo w ρ st st' a o.dst K) : o.wp P a w K Q:=by
  unfold aExec at he
  split at he
  · rename_i c ho
    split at he
    · rename_i hk
      rcases he with ⟨d,v,n,S',hcal,h1,h2,rfl⟩ | ⟨v,S',hcal,h2,rfl⟩
      · rw [h1] at hK
        exact appE_sound h ho hcal h1 (hd d h1) h2 hK
      · obtain ⟨callee,args,tys⟩:=c
        simp only at hcal
        subst hcal
        obtain ⟨u,w',h3,h4,h5,h6⟩:=copyE_run (ty:=o.type) h.env h.look h2
        unfold Oper.wp
        rw [show (execOp a.eval o).run P w = .ok (.value u) w' by simp [execOp,ho,resolve,invoke,builtin,h3]]
        exact hK _ _ _ _ (h.put h4 h5 st.fr (fun t=>.inr ⟨rfl,fun _ hX=>hX.elim⟩) hd h6) h5 (fun _ hX=>hX.elim)
    · obtain ⟨v,S',h1,rfl⟩:=he
      exact eff_sound h hd h1 hK
  · obtain ⟨v,S',h1,rfl⟩:=he
    exact eff_sound h hd h1 hK
end
end Go.Abs
