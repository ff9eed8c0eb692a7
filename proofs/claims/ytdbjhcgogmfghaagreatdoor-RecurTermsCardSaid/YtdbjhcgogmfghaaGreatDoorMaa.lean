/-
  An abstract machine for this program, and contracts of its functions: part Maa (no statement by itself).
-/
import Derived.WalkKit
import Derived.Orders
import Derived.Still
set_option linter.unusedVariables false
set_option linter.unusedSimpArgs false
set_option linter.unnecessarySimpa false

/-
  What may lie in a cell, named by nobody; and what this seat's package variables hold.
-/
namespace Go.Abs
open Go

inductive FX where
  | f (a : Option Nat)
  | z (a b : Option Nat)

inductive Leaf where
  | sc (v : Value)
  | ints (k : IntKind) (L : List Int)
  | intc (k : IntKind) (L : List Int) (n : Nat)
  | pim (cs : List Leaf)
  | seq (sz : Nat) (L : List (List Leaf))
  | seqc (sz : Nat) (L : List (List Leaf)) (n : Nat)
  | fx (x : FX)

def GT (g : Nat) : Option (List Leaf):=match g with
  | 0=>some (([0,1,56,2,57,49,28,3,61,58,42,50,38,29,17,4,62,47,59,36,45,43,51,22,53,39,33,30,24,18,12,5,63,55,48,27,60,41,37,16,46,35,44,21,52,32,23,11,54,26,40,15,34,20,31,10,25,14,19,9,13,8,7,6] : List Int).map fun n=>.sc (.int .u8 n))
  | _=>none
end Go.Abs

/-
  An abstract machine over Go programs: what an operation does, said of lists and names in the place of memory. Definitions, and how abstract values are held by real ones.
-/
namespace Go.Abs
open Go

inductive Nm where
  | loc (s : Nat)
  | out (m : Nm)
  | new
  | fam (m : Nm) (i : Nat)
  deriving DecidableEq

inductive Cell where
  | sc (v : Value)
  | ints (k : IntKind) (L : List Int)
  | intc (k : IntKind) (L : List Int) (n : Nat)
  | seq (sz : Nat) (L : List (List Leaf))
  | seqc (sz : Nat) (L : List (List Leaf)) (n : Nat)
  | win (m : Nm) (off len cmin : Nat)
  | ptr (m : Nm) (off : Nat)
  | pim (cs : List Leaf)
  | fx (x : FX)
  | junk

inductive AVal where
  | c (x : Cell)
  | agg (cs : List Cell)
  | fn (f : FuncId) (caps : List Cell)
  | accv (m : Nm) (n : Nat)
  | accp (m : Nm) (off : Nat)
  | tup (xs : List AVal)

inductive AObj where
  | cells (ty : TypeId) (cs : List Cell)
  | ints (ty : TypeId) (k : IntKind) (L : List Int)
  | acc (ty : TypeId) (sz : Nat) (R : List (List Cell))
  | fix (x : Obj)
  | row (ty : TypeId) (cs : List Cell)

abbrev ir (k : IntKind) (L : List Int) : List (List Cell):=L.map fun x=>[.sc (.int k x)]
abbrev AObj.accI (ty : TypeId) (k : IntKind) (L : List Int) : AObj:=.acc ty 1 (ir k L)

def AObj.real : AObj→Bool
  | .acc _ _ []=>false
  | _=>true

def AObj.isAcc : AObj→Bool
  | .acc ..=>true
  | _=>false
theorem AObj.real_of {o : AObj} (h : o.isAcc = false) : o.real = true:=by cases o <;> first | rfl | cases h

abbrev Store:=Nm→Option AObj

def upd (S : Store) (m : Nm) (o : AObj) : Store:=fun n=>if n = m then some o else S n
abbrev Fram:=Nat→AVal

def putF (fr : Fram) (d : Option Nat) (v : AVal) : Fram :=
  match d with
  | some d=>fun t=>if t = d then v else fr t
  | none=>fr

structure St where
  fr : Fram
  sg : Store

def nanW (b : Nat) : Prop:=b < 2 ^ 64∧(FloatKind.f64.decode b).isNaN = true
def FO : Option Nat→Nat→Prop
  | some n,b=>b = n
  | none,b=>nanW b
def FXS : FX→Value→Prop
  | .f a,v=>∃ p,v = .float .f64 p∧FO a p
  | .z a b,v=>∃ p q,v = .complex .f64 p q∧FO a p∧FO b q
theorem FXS.one {x : FX} {v : Value} (h : FXS x v) : v.oneCell' = true:=by
  cases x with
  | f a=>obtain ⟨p,rfl,-⟩:=h;rfl
  | z a b=>obtain ⟨p,q,rfl,-⟩:=h;rfl
theorem FXS.not_int {x : FX} {k : IntKind} {n : Int} (h : FXS x (.int k n)) : False:=by
  cases x with
  | f a=>obtain ⟨p,q,-⟩:=h;cases q
  | z a b=>obtain ⟨p,q,r,-⟩:=h;cases r
def cellC (v : Value) : Cell:=match v with
  | .float .f64 n=>.fx (.f (some n))
  | .complex .f64 a b=>.fx (.z (some a) (some b))
  | v=>.sc v

def look (fr : Fram) : Operand→AVal
  | .tmp t=>fr t
  | .const v=>.c (cellC v)
  | .global g=>match GT g with | some cs=>.c (.pim cs) | none=>.c .junk
  | .func f=>.fn f []

def Leaf.cell : Leaf→Cell
  | .sc v=>.sc v
  | .ints k L=>.ints k L
  | .intc k L n=>.intc k L n
  | .pim cs=>.pim cs
  | .seq sz L=>.seq sz L
  | .seqc sz L n=>.seqc sz L n
  | .fx x=>.fx x

/-! ### How real values hold abstract ones -/

def Fr (w : World) (ρ : Nm→Nat) (S : Store) (b : Nat) : Prop:=b < w.heap.size∧∀ m o,S m = some o→o.real = true→ρ m ≠ b

def IntsS (w : World) (F : Nat→Prop) (k : IntKind) (L : List Int) (n : Nat) (v : Value) : Prop :=
  ∃ A cap,v = .slice A n cap∧n ≤ L.length∧L.length ≤ cap∧(0 < L.length→∃ b off,A = some ⟨b,off,none⟩∧F b∧∀ i x,L[i]? = some x→w.cell? ⟨b,off + i,none⟩ = some (.int k x))

inductive LeafS (w : World) (F : Nat→Prop) : Leaf→Value→Prop
  | sc {c : Value} (h : c.oneCell' = true) : LeafS w F (.sc c) c
  | ints {k : IntKind} {L : List Int} {v : Value} (h : IntsS w F k L L.length v) : LeafS w F (.ints k L) v
  | intc {k : IntKind} {L : List Int} {n : Nat} {v : Value} (h : IntsS w F k L n v) : LeafS w F (.intc k L n) v
  | pim {cs : List Leaf} {b off : Nat} (us : Nat→Value) (hF : F b) (h1 : ∀ j x,cs[j]? = some x→w.cell? ⟨b,off + j,none⟩ = some (us j)) (h2 : ∀ j x,cs[j]? = some x→LeafS w F x (us j)) : LeafS w F (.pim cs) (.pointer (some ⟨b,off,none⟩))
  | seq {sz : Nat} {L : List (List Leaf)} {A : Option Addr} {cap : Nat} (hc : L.length ≤ cap) (hz : ∀ c ∈ L,c.length = sz) (b off : Nat) (hA : 0 < L.length→A = some ⟨b,off,none⟩∧F b) (us : Nat→Nat→Value)
      (h1 : ∀ i c j x,L[i]? = some c→c[j]? = some x→w.cell? ⟨b,off + (i * sz + j),none⟩ = some (us i j)) (h2 : ∀ i c j x,L[i]? = some c→c[j]? = some x→LeafS w F x (us i j)) : LeafS w F (.seq sz L) (.slice A L.length cap)
  | seqc {sz : Nat} {L : List (List Leaf)} {n : Nat} {A : Option Addr} {cap : Nat} (hn : n ≤ L.length) (hc : L.length ≤ cap) (hz : ∀ c ∈ L,c.length = sz) (b off : Nat) (hA : 0 < L.length→A = some ⟨b,off,none⟩∧F b) (us : Nat→Nat→Value)
      (h1 : ∀ i c j x,L[i]? = some c→c[j]? = some x→w.cell? ⟨b,off + (i * sz + j),none⟩ = some (us i j)) (h2 : ∀ i c j x,L[i]? = some c→c[j]? = some x→LeafS w F x (us i j)) : LeafS w F (.seqc sz L n) (.slice A n cap)
  | fx {x : FX} {v : Value} (h : FXS x v) : LeafS w F (.fx x) v

def SeqS (w : World) (F : Nat→Prop) (sz : Nat) (L : List (List Leaf)) (n : Nat) (v : Value) : Prop :=
  ∃ A cap,v = .slice A n cap∧n ≤ L.length∧L.length ≤ cap∧(∀ c ∈ L,c.length = sz)∧(0 < L.length→∃ b off,A = some ⟨b,off,none⟩∧F b ∧
    ∀ i c j x,L[i]? = some c→c[j]? = some x→∃ u,w.cell? ⟨b,off + (i * sz + j),none⟩ = some u∧LeafS w F x u)
def PimS (w : World) (F : Nat→Prop) (cs : List Leaf) (v : Value) : Prop :=
  ∃ b off,v = .pointer (some ⟨b,off,none⟩)∧F b∧∀ j x,cs[j]? = some x→∃ u,w.cell? ⟨b,off + j,none⟩ = some u∧LeafS w F x u

section
variable {w w' : World} {F G : Nat→Prop}
theorem LeafS.imp (h : ∀ b,F b→G b∧∀ o,w'.cell? ⟨b,o,none⟩ = w.cell? ⟨b,o,none⟩) {x : Leaf} {v : Value} (hv : LeafS w F x v) : LeafS w' G x v:=by
  have hi : ∀ {k L n v},IntsS w F k L n v→IntsS w' G k L n v:=by
    intro k L n v hv
    obtain ⟨A,cap,e,h1,h2,h3⟩:=hv
    refine ⟨A,cap,e,h1,h2,fun hl=>?_⟩
    obtain ⟨b,off,e2,hf,hc⟩:=h3 hl
    exact ⟨b,off,e2,(h b hf).1,fun i x hx=>by rw [(h b hf).2];exact hc i x hx⟩
  induction hv with
  | sc h=>exact .sc h
  | ints h=>exact .ints (hi h)
  | intc h=>exact .intc (hi h)
  | fx h=>exact .fx h
  | pim us hF h1 h2 ih=>exact .pim us (h _ hF).1 (fun j x hj=>by rw [(h _ hF).2];exact h1 j x hj) ih
  | seq hc hz b off hA us h1 h2 ih =>
    refine .seq hc hz b off (fun hl=>⟨(hA hl).1,(h _ (hA hl).2).1⟩) us (fun i c j x hi hj=>?_) ih
    have hl : 0 < _:=Nat.lt_of_le_of_lt (Nat.zero_le i) (List.getElem?_eq_some_iff.1 hi).1
    rw [(h _ (hA hl).2).2];exact h1 i c j x hi hj
  | seqc hn hc hz b off hA us h1 h2 ih =>
    refine .seqc hn hc hz b off (fun hl=>⟨(hA hl).1,(h _ (hA hl).2).1⟩) us (fun i c j x hi hj=>?_) ih
    have hl : 0 < _:=Nat.lt_of_le_of_lt (Nat.zero_le i) (List.getElem?_eq_some_iff.1 hi).1
    rw [(h _ (hA hl).2).2];exact h1 i c j x hi hj

theorem IntsS.imp (h : ∀ b,F b→G b∧∀ o,w'.cell? ⟨b,o,none⟩ = w.cell? ⟨b,o,none⟩) {k : IntKind} {L : List Int} {n : Nat} {v : Value} (hv : IntsS w F k L n v) : IntsS w' G k L n v:=by
  obtain ⟨A,cap,e,h1,h2,h3⟩:=hv
  refine ⟨A,cap,e,h1,h2,fun hl=>?_⟩
  obtain ⟨b,off,e2,hf,hc⟩:=h3 hl
  exact ⟨b,off,e2,(h b hf).1,fun i x hx=>by rw [(h b hf).2];exact hc i x hx⟩
theorem SeqS.imp (h : ∀ b,F b→G b∧∀ o,w'.cell? ⟨b,o,none⟩ = w.cell? ⟨b,o,none⟩) {sz : Nat} {L : List (List Leaf)} {n : Nat} {v : Value} (hv : SeqS w F sz L n v) : SeqS w' G sz L n v:=by
  obtain ⟨A,cap,e,hn,h1,h2,h3⟩:=hv
  refine ⟨A,cap,e,hn,h1,h2,fun hl=>?_⟩
  obtain ⟨b,off,e2,hf,hc⟩:=h3 hl
  refine ⟨b,off,e2,(h b hf).1,fun i c j x hi hj=>?_⟩
  obtain ⟨u,hu,hs⟩:=hc i c j x hi hj
  exact ⟨u,by rw [(h b hf).2];exact hu,hs.imp h⟩
theorem PimS.imp (h : ∀ b,F b→G b∧∀ o,w'.cell? ⟨b,o,none⟩ = w.cell? ⟨b,o,none⟩) {cs : List Leaf} {v : Value} (hv : PimS w F cs v) : PimS w' G cs v:=by
  obtain ⟨b,off,e,hf,hc⟩:=hv
  refine ⟨b,off,e,(h b hf).1,fun j x hj=>?_⟩
  obtain ⟨u,hu,hs⟩:=hc j x hj
  exact ⟨u,by rw [(h b hf).2];exact hu,hs.imp h⟩

open Classical in
theorem leafS_pim {cs : List Leaf} {v : Value} (h : PimS w F cs v) : LeafS w F (.pim cs) v:=by
  obtain ⟨b,off,rfl,hf,hc⟩:=h
  refine .pim (fun j=>if h : ∃ x,cs[j]? = some x then Classical.choose (hc j _ (Classical.choose_spec h)) else .int .i64 0) hf (fun j x hj=>?_) (fun j x hj=>?_)
  · have he : ∃ x,cs[j]? = some x:=⟨x,hj⟩
    rw [dif_pos he]
    exact (Classical.choose_spec (hc j _ (Classical.choose_spec he))).1
  · have he : ∃ x,cs[j]? = some x:=⟨x,hj⟩
    simp only [dif_pos he]
    have e : Classical.choose he = x:=Option.some.inj ((Classical.choose_spec he).symm.trans hj)
    have h2:=(Classical.choose_spec (hc j _ (Classical.choose_spec he))).2
    exact e ▸ h2
theorem LeafS.pimS {cs : List Leaf} {v : Value} (h : LeafS w F (.pim cs) v) : PimS w F cs v:=by
  cases h with
  | pim us hf h1 h2=>exact ⟨_,_,rfl,hf,fun j x hj=>⟨us j,h1 j x hj,h2 j x hj⟩⟩

open Classical in
theorem seq_us {sz : Nat} {L : List (List Leaf)} {b off : Nat} (hc : ∀ i c j x,L[i]? = some c→c[j]? = some x→∃ u,w.cell? ⟨b,off + (i * sz + j),none⟩ = some u∧LeafS w F x u) :
    ∃ us : Nat→Nat→Value,(∀ i c j x,L[i]? = some c→c[j]? = some x→w.cell? ⟨b,off + (i * sz + j),none⟩ = some (us i j))∧∀ i c j x,L[i]? = some c→c[j]? = some x→LeafS w F x (us i j):=by
  refine ⟨fun i j=>if h : ∃ u,w.cell? ⟨b,off + (i * sz + j),none⟩ = some u then Classical.choose h else .int .i64 0,fun i c j x hi hj=>?_,fun i c j x hi hj=>?_⟩
  · obtain ⟨u,h1,h2⟩:=hc i c j x hi hj
    have he : ∃ u,w.cell? ⟨b,off + (i * sz + j),none⟩ = some u:=⟨u,h1⟩
    simp only [dif_pos he];exact Classical.choose_spec he
  · obtain ⟨u,h1,h2⟩:=hc i c j x hi hj
    have he : ∃ u,w.cell? ⟨b,off + (i * sz + j),none⟩ = some u:=⟨u,h1⟩
    simp only [dif_pos he]
    have e : Classical.choose he = u:=Option.some.inj ((Classical.choose_spec he).symm.trans h1)
    rw [e];exact h2
theorem leafS_seq {sz : Nat} {L : List (List Leaf)} {v : Value} (h : SeqS w F sz L L.length v) : LeafS w F (.seq sz L) v:=by
  obtain ⟨A,cap,rfl,hn,h1,h2,h3⟩:=h
  cases L with
  | nil=>exact .seq h1 h2 0 0 (fun h=>by simp at h) (fun _ _=>.int .i64 0) (fun i c j x hi=>by simp at hi) (fun i c j x hi=>by simp at hi)
  | cons a l =>
    obtain ⟨b,off,rfl,hf,hc⟩:=h3 (by simp)
    obtain ⟨us,g1,g2⟩:=seq_us hc
    exact .seq h1 h2 b off (fun _=>⟨rfl,hf⟩) us g1 g2
theorem leafS_seqc {sz : Nat} {L : List (List Leaf)} {n : Nat} {v : Value} (h : SeqS w F sz L n v) : LeafS w F (.seqc sz L n) v:=by
  obtain ⟨A,cap,rfl,hn,h1,h2,h3⟩:=h
  cases L with
  | nil=>exact .seqc hn h1 h2 0 0 (fun h=>by simp at h) (fun _ _=>.int .i64 0) (fun i c j x hi=>by simp at hi) (fun i c j x hi=>by simp at hi)
  | cons a l =>
    obtain ⟨b,off,rfl,hf,hc⟩:=h3 (by simp)
    obtain ⟨us,g1,g2⟩:=seq_us hc
    exact .seqc hn h1 h2 b off (fun _=>⟨rfl,hf⟩) us g1 g2
theorem LeafS.seqS {sz : Nat} {L : List (List Leaf)} {v : Value} (h : LeafS w F (.seq sz L) v) : SeqS w F sz L L.length v:=by
  cases h with
  | seq hc hz b off hA us h1 h2=>exact ⟨_,_,rfl,Nat.le_refl _,hc,hz,fun hl=>⟨b,off,(hA hl).1,(hA hl).2,fun i c j x hi hj=>⟨us i j,h1 i c j x hi hj,h2 i c j x hi hj⟩⟩⟩
theorem LeafS.seqcS {sz : Nat} {L : List (List Leaf)} {n : Nat} {v : Value} (h : LeafS w F (.seqc sz L n) v) : SeqS w F sz L n v:=by
  cases h with
  | seqc hn hc hz b off hA us h1 h2=>exact ⟨_,_,rfl,hn,hc,hz,fun hl=>⟨b,off,(hA hl).1,(hA hl).2,fun i c j x hi hj=>⟨us i j,h1 i c j x hi hj,h2 i c j x hi hj⟩⟩⟩
end

def SzX (w : World) (b : Nat) (ty : TypeId) (n : Nat) : Prop:=∃ vs,w.heap[b]? = some (.cells vs ty (0,0))∧vs.size = n
def SizeAt (w : World) (b : Nat) (n : Nat) : Prop:=∃ ty q,SzX w b ty q∧n ≤ q

def CellS (w : World) (ρ : Nm→Nat) (S : Store) : Cell→Value→Prop
  | .sc c,v=>v = c
  | .ints k L,v=>IntsS w (Fr w ρ S) k L L.length v
  | .intc k L n,v=>IntsS w (Fr w ρ S) k L n v
  | .seq sz L,v=>SeqS w (Fr w ρ S) sz L L.length v
  | .seqc sz L n,v=>SeqS w (Fr w ρ S) sz L n v
  | .win m off len cmin,v=>(∃ o,S m = some o∧o.isAcc = false)∧∃ A cap,v = .slice A len cap∧len ≤ cmin∧cmin ≤ cap∧(0 < cap→A = some ⟨ρ m,off,none⟩∧SizeAt w (ρ m) (off + cap))
  | .ptr m off,v=>(∃ o,S m = some o∧o.isAcc = false)∧v = .pointer (some ⟨ρ m,off,none⟩)
  | .pim cs,v=>PimS w (Fr w ρ S) cs v
  | .fx x,v=>FXS x v
  | .junk,_=>True

def CellsS (w : World) (ρ : Nm→Nat) (S : Store) (cs : List Cell) (vs : List Value) : Prop :=
  cs.length = vs.length∧∀ (i : Nat) (x : Cell),cs[i]? = some x→∃ u,vs[i]? = some u∧u.oneCell' = true∧CellS w ρ S x u

def VS1 (w : World) (ρ : Nm→Nat) (S : Store) : AVal→Value→Prop
  | .c x,v=>CellS w ρ S x v
  | .agg cs,v=>∃ vs,v = .agg vs∧CellsS w ρ S cs vs.toList
  | .fn f caps,v=>∃ vs,v = .func (.func f) #[] vs∧CellsS w ρ S caps vs.toList
  | .tup _,_=>False
  | .accv _ _,_=>False
  | .accp _ _,_=>False

def VS (w : World) (ρ : Nm→Nat) (S : Store) : AVal→Value→Prop
  | .tup xs,v=>∃ vs,v = .tuple vs∧xs.length = vs.size∧∀ (i : Nat) (x : AVal),xs[i]? = some x→∃ u,vs[i]? = some u∧VS1 w ρ S x u
  | .accv m n,v=>∃ ty sz L,S m = some (.acc ty sz L)∧L.length = n∧((L = []∧∃ A,v = .slice A 0 0) ∨ (L ≠ []∧∃ cap,v = .slice (some ⟨ρ m,0,none⟩) L.length cap∧L.length ≤ cap∧cap ≤ maxLen∧SzX w (ρ m) ty (cap * sz)))
  | .accp m off,v=>∃ ty sz L,S m = some (.acc ty sz L)∧L ≠ []∧v = .pointer (some ⟨ρ m,off,none⟩)
  | x,v=>VS1 w ρ S x v

def RowS (w : World) (b : Nat) (ty : TypeId) (k : IntKind) (L : List Int) : Prop :=
  ∃ vs,w.heap[b]? = some (.cells vs ty (0,0))∧∀ (i : Nat) (x : Int),L[i]? = some x→vs[i]? = some (Value.int k x)

def RowsS (w : World) (ρ : Nm→Nat) (S : Store) (b : Nat) (ty : TypeId) (sz : Nat) (L : List (List Cell)) : Prop :=
  ∃ vs,w.heap[b]? = some (.cells vs ty (0,0))∧(∀ c ∈ L,c.length = sz)∧∀ (i : Nat) (c : List Cell) (j : Nat) (x : Cell),L[i]? = some c→c[j]? = some x→∃ u,vs[i * sz + j]? = some u∧u.oneCell' = true∧CellS w ρ S x u

def ObjS (w : World) (ρ : Nm→Nat) (S : Store) (b : Nat) : AObj→Prop
  | .fix x=>w.heap[b]? = some x
  | .row ty cs=>∃ vs,w.heap[b]? = some (.cells vs ty (0,0))∧∀ (i : Nat) (x : Cell),cs[i]? = some x→∃ u,vs[i]? = some u∧u.oneCell' = true∧CellS w ρ S x u
  | .cells ty cs=>∃ vs,w.heap[b]? = some (.cells vs ty (0,0))∧vs.size = cs.length∧∀ (i : Nat) (x : Cell),cs[i]? = some x→∃ u,vs[i]? = some u∧u.oneCell' = true∧CellS w ρ S x u
  | .ints ty k L=>RowS w b ty k L
  | .acc ty sz L=>L = [] ∨ RowsS w ρ S b ty sz L

def Globs (w : World) (ρ : Nm→Nat) (S : Store) : Prop:=∀ g cs,GT g = some cs→PimS w (Fr w ρ S) cs (.pointer (some ⟨g,0,none⟩))

structure Sim (w : World) (ρ : Nm→Nat) (st : St) (tm : Array Value) : Prop where
  inj : ∀ m m' o o',st.sg m = some o→st.sg m' = some o'→o.real = true→o'.real = true→ρ m = ρ m'→m = m'
  obj : ∀ m o,st.sg m = some o→ObjS w ρ st.sg (ρ m) o
  fr : ∀ t,VS w ρ st.sg (st.fr t) (tm.getD t undef)
  gl : Globs w ρ st.sg

structure Ext (X : Nm→Prop) (w : World) (ρ : Nm→Nat) (S : Store) (w' : World) (ρ' : Nm→Nat) (S' : Store) : Prop where
  os : w'.os = w.os
  tape : w'.tape = w.tape
  output : w'.output = w.output
  size : w.heap.size ≤ w'.heap.size
  old : ∀ b,b < w.heap.size→(∀ m o,S m = some o→o.real = true→ρ m ≠ b)→w'.heap[b]? = w.heap[b]?
  nms : ∀ m o',S' m = some o'→o'.real = true→(∃ o,S m = some o∧o.real = true∧ρ' m = ρ m) ∨ w.heap.size ≤ ρ' m
  kp : ∀ m o,S m = some o→o.isAcc = false→∃ o',S' m = some o'∧o'.isAcc = false∧ρ' m = ρ m
  szs : ∀ m o,¬ X m→S m = some o→o.real = true→∀ ty n,SzX w (ρ m) ty n→SzX w' (ρ m) ty n
  acc : ∀ m ty sz L,¬ X m→S m = some (.acc ty sz L)→S' m = some (.acc ty sz L)∧(L ≠ []→ρ' m = ρ m)
  nx : ∀ m,X m→∀ o,S m = some o→o.isAcc = true

def Cell.at (m : Nm) : Cell→Prop
  | .win n ..=>n = m
  | .ptr n _=>n = m
  | _=>False
def AVal.at1 (m : Nm) : AVal→Prop
  | .c x=>x.at m
  | .agg cs=>∃ x ∈ cs,x.at m
  | .fn _ cs=>∃ x ∈ cs,x.at m
  | .accv n _=>n = m
  | .accp n _=>n = m
  | .tup _=>False
def AVal.at (m : Nm) : AVal→Prop
  | .tup xs=>∃ x ∈ xs,x.at1 m
  | x=>x.at1 m

section
variable {X : Nm→Prop} {w w' : World} {ρ ρ' : Nm→Nat} {S S' : Store}

theorem Ext.fr (h : Ext X w ρ S w' ρ' S') {b : Nat} (hb : Fr w ρ S b) : Fr w' ρ' S' b:=by
  refine ⟨Nat.lt_of_lt_of_le hb.1 h.size,fun m o hm ho he=>?_⟩
  rcases h.nms m o hm ho with ⟨o1,h1,h2,h3⟩ | h1
  · exact hb.2 m o1 h1 h2 (by rw [← h3,he])
  · have:=hb.1;omega

theorem Ext.cell (h : Ext X w ρ S w' ρ' S') {b : Nat} (hb : Fr w ρ S b) (o : Nat) : w'.cell? ⟨b,o,none⟩ = w.cell? ⟨b,o,none⟩:=by
  have:=h.old b hb.1 hb.2
  simp [World.cell?,this]

theorem Ext.imp (h : Ext X w ρ S w' ρ' S') (b : Nat) (hb : Fr w ρ S b) : Fr w' ρ' S' b∧∀ o,w'.cell? ⟨b,o,none⟩ = w.cell? ⟨b,o,none⟩:=⟨h.fr hb,h.cell hb⟩
theorem Globs.ext (h : Ext X w ρ S w' ρ' S') (hg : Globs w ρ S) : Globs w' ρ' S':=fun g cs e=>(hg g cs e).imp h.imp
theorem IntsS.ext (h : Ext X w ρ S w' ρ' S') {k : IntKind} {L : List Int} {n : Nat} {v : Value} (hv : IntsS w (Fr w ρ S) k L n v) : IntsS w' (Fr w' ρ' S') k L n v:=hv.imp h.imp
theorem LeafS.ext (h : Ext X w ρ S w' ρ' S') {x : Leaf} {v : Value} (hv : LeafS w (Fr w ρ S) x v) : LeafS w' (Fr w' ρ' S') x v:=hv.imp h.imp

theorem CellS.ext (h : Ext X w ρ S w' ρ' S') {x : Cell} {v : Value} (hv : CellS w ρ S x v) : CellS w' ρ' S' x v:=by
  cases x with
  | sc c=>exact hv
  | ints k L=>exact IntsS.imp h.imp hv
  | intc k L n=>exact IntsS.imp h.imp hv
  | seq sz L=>exact SeqS.imp h.imp hv
  | seqc sz L n=>exact SeqS.imp h.imp hv
  | win m off len cmin =>
    obtain ⟨⟨o,ho,hr⟩,A,cap,e,h1,h2,h3⟩:=hv
    have hX : ¬ X m:=fun hX=>by rw [h.nx m hX o ho] at hr;cases hr
    obtain ⟨o',ho',hr',hq⟩:=h.kp m o ho hr
    refine ⟨⟨o',ho',hr'⟩,A,cap,e,h1,h2,fun hl=>?_⟩
    rw [hq]
    obtain ⟨e1,ty,q,e2,e3⟩:=h3 hl
    exact ⟨e1,ty,q,h.szs m o hX ho (AObj.real_of hr) _ _ e2,e3⟩
  | ptr m off =>
    obtain ⟨⟨o,ho,hr⟩,e⟩:=hv
    obtain ⟨o',ho',hr',hq⟩:=h.kp m o ho hr
    exact ⟨⟨o',ho',hr'⟩,by rw [hq];exact e⟩
  | pim cs=>exact PimS.imp h.imp hv
  | fx x=>exact hv
  | junk=>trivial

theorem cellC_S (v : Value) : CellS w ρ S (cellC v) v:=by
  unfold cellC
  split
  · exact ⟨_,rfl,rfl⟩
  · exact ⟨_,_,rfl,rfl,rfl⟩
  · exact rfl
theorem cellC_nm (v : Value) {m : Nm} : ¬ (cellC v).at m:=by
  unfold cellC
  split <;> exact fun h=>h

theorem CellsS.ext (h : Ext X w ρ S w' ρ' S') {cs : List Cell} {vs : List Value} (hv : CellsS w ρ S cs vs) : CellsS w' ρ' S' cs vs :=
  ⟨hv.1,fun i x hi=>by
    obtain ⟨u,h1,h2,h3⟩:=hv.2 i x hi
    exact ⟨u,h1,h2,h3.ext h⟩⟩

theorem VS1.ext (h : Ext X w ρ S w' ρ' S') {x : AVal} {v : Value} (hv : VS1 w ρ S x v) : VS1 w' ρ' S' x v:=by
  cases x with
  | c x=>exact CellS.ext h hv
  | agg cs=>obtain ⟨vs,e,h1⟩:=hv;exact ⟨vs,e,h1.ext h⟩
  | fn f cs=>obtain ⟨vs,e,h1⟩:=hv;exact ⟨vs,e,h1.ext h⟩
  | accv m n=>exact hv
  | accp m o=>exact hv
  | tup xs=>exact hv

theorem VS.ext (h : Ext X w ρ S w' ρ' S') {x : AVal} {v : Value} (hx : ∀ m,X m→∀ o,x ≠ .accv m o∧x ≠ .accp m o) (hv : VS w ρ S x v) : VS w' ρ' S' x v:=by
  cases x with
  | c x=>exact VS1.ext (x:=.c x) h hv
  | agg cs=>exact VS1.ext (x:=.agg cs) h hv
  | fn f cs=>exact VS1.ext (x:=.fn f cs) h hv
  | accv m n =>
    obtain ⟨ty,k,L,ho,hn,h1⟩:=hv
    have hX : ¬ X m:=fun hX=>(hx m hX n).1 rfl
    obtain ⟨ha,hq⟩:=h.acc m ty k L hX ho
    refine ⟨ty,k,L,ha,hn,?_⟩
    rcases h1 with h1 | ⟨hl,cap,e,h2,h2',h3⟩
    · exact .inl h1
    · have hr : (AObj.acc ty k L).real = true:=by cases L with | nil=>exact absurd rfl hl | cons a l=>rfl
      exact .inr ⟨hl,cap,by rw [hq hl];exact e,h2,h2',by rw [hq hl];exact h.szs m _ hX ho hr _ _ h3⟩
  | accp m off =>
    obtain ⟨ty,k,L,ho,h1,h2⟩:=hv
    have hX : ¬ X m:=fun hX=>(hx m hX off).2 rfl
    obtain ⟨ha,hq⟩:=h.acc m ty k L hX ho
    exact ⟨ty,k,L,ha,h1,by rw [hq h1];exact h2⟩
  | tup xs =>
    obtain ⟨vs,e,hl,h1⟩:=hv
    refine ⟨vs,e,hl,fun i x hi=>?_⟩
    obtain ⟨u,h2,h3⟩:=h1 i x hi
    exact ⟨u,h2,h3.ext h⟩

theorem Ext.refl (w : World) (ρ : Nm→Nat) (S : Store) : Ext (fun _=>False) w ρ S w ρ S :=
  ⟨rfl,rfl,rfl,Nat.le_refl _,fun _ _ _=>rfl,fun _ o h hr=>.inl ⟨o,h,hr,rfl⟩,fun _ o h hr=>⟨o,h,hr,rfl⟩,fun _ _ _ _ _ _ _ h=>h,fun _ _ _ _ _ h=>⟨h,fun _=>rfl⟩,fun _ h=>h.elim⟩

theorem Ext.trans {Y : Nm→Prop} {w'' : World} {ρ'' : Nm→Nat} {S'' : Store} (h : Ext X w ρ S w' ρ' S') (k : Ext Y w' ρ' S' w'' ρ'' S'') (hY : ∀ m o,S m = some o→Y m→X m) : Ext X w ρ S w'' ρ'' S'' where
  os:=k.os.trans h.os
  tape:=k.tape.trans h.tape
  output:=k.output.trans h.output
  size:=Nat.le_trans h.size k.size
  old b hb hn:=by
    rw [k.old b (Nat.lt_of_lt_of_le hb h.size),h.old b hb hn]
    exact (h.fr ⟨hb,hn⟩).2
  nms m o' hm hr:=by
    rcases k.nms m o' hm hr with ⟨o1,h1,h2,h3⟩ | h1
    · rcases h.nms m o1 h1 h2 with ⟨o2,h4,h5,h6⟩ | h4
      · exact .inl ⟨o2,h4,h5,h3.trans h6⟩
      · exact .inr (by rw [h3];exact h4)
    · exact .inr (Nat.le_trans h.size h1)
  kp m o hm hr:=by
    obtain ⟨o',h1,h2,h3⟩:=h.kp m o hm hr
    obtain ⟨o'',h4,h5,h6⟩:=k.kp m o' h1 h2
    exact ⟨o'',h4,h5,h6.trans h3⟩
  szs m o hX hm hr ty n hn:=by
    have hXY : ¬ Y m:=fun hy=>hX (hY m o hm hy)
    cases o with
    | acc t kk L =>
      cases L with
      | nil=>cases hr
      | cons a l =>
        obtain ⟨h1,h2⟩:=h.acc m t kk _ hX hm
        have h3:=h2 (by simp)
        have:=k.szs m _ hXY h1 rfl ty n (by rw [h3];exact h.szs m _ hX hm hr ty n hn)
        rw [h3] at this;exact this
    | cells t cs =>
      obtain ⟨o',h1,h2,h3⟩:=h.kp m _ hm rfl
      have:=k.szs m o' hXY h1 (AObj.real_of h2) ty n (by rw [h3];exact h.szs m _ hX hm hr ty n hn)
      rw [h3] at this;exact this
    | row t cs =>
      obtain ⟨o',h1,h2,h3⟩:=h.kp m _ hm rfl
      have:=k.szs m o' hXY h1 (AObj.real_of h2) ty n (by rw [h3];exact h.szs m _ hX hm hr ty n hn)
      rw [h3] at this;exact this
    | fix x =>
      obtain ⟨o',h1,h2,h3⟩:=h.kp m _ hm rfl
      have:=k.szs m o' hXY h1 (AObj.real_of h2) ty n (by rw [h3];exact h.szs m _ hX hm hr ty n hn)
      rw [h3] at this;exact this
    | ints t kk L =>
      obtain ⟨o',h1,h2,h3⟩:=h.kp m _ hm rfl
      have:=k.szs m o' hXY h1 (AObj.real_of h2) ty n (by rw [h3];exact h.szs m _ hX hm hr ty n hn)
      rw [h3] at this;exact this
  acc m ty kk L hX hm:=by
    obtain ⟨h1,h2⟩:=h.acc m ty kk L hX hm
    obtain ⟨h3,h4⟩:=k.acc m ty kk L (fun hy=>hX (hY m _ hm hy)) h1
    exact ⟨h3,fun hl=>(h4 hl).trans (h2 hl)⟩
  nx:=h.nx

theorem Ext.drawn (w : World) (ρ : Nm→Nat) (S : Store) (n : Nat) : Ext (fun _=>False) w ρ S { w with drawn:=n } ρ S :=
  ⟨rfl,rfl,rfl,Nat.le_refl _,fun _ _ _=>rfl,fun _ o h hr=>.inl ⟨o,h,hr,rfl⟩,fun _ o h hr=>⟨o,h,hr,rfl⟩,fun _ _ _ _ _ _ _ h=>h,fun _ _ _ _ _ h=>⟨h,fun _=>rfl⟩,fun _ h=>h.elim⟩
theorem ObjS.drawn {b : Nat} {o : AObj} (h : ObjS w ρ S b o) (n : Nat) : ObjS { w with drawn:=n } ρ S b o:=by
  have hc : ∀ {x : Cell} {u : Value},CellS w ρ S x u→CellS { w with drawn:=n } ρ S x u:=fun h=>h.ext (Ext.drawn w ρ S n)
  cases o with
  | fix x=>exact h
  | row ty cs=>obtain ⟨vs,h1,h2⟩:=h;exact ⟨vs,h1,fun i x hi=>by obtain ⟨u,h3,h4,h5⟩:=h2 i x hi;exact ⟨u,h3,h4,hc h5⟩⟩
  | cells ty cs=>obtain ⟨vs,h1,h0,h2⟩:=h;exact ⟨vs,h1,h0,fun i x hi=>by obtain ⟨u,h3,h4,h5⟩:=h2 i x hi;exact ⟨u,h3,h4,hc h5⟩⟩
  | ints ty k L=>exact h
  | acc ty sz L =>
    rcases h with h | ⟨vs,h1,h0,h2⟩
    · exact .inl h
    · exact .inr ⟨vs,h1,h0,fun i c j x hi hj=>by obtain ⟨u,h3,h4,h5⟩:=h2 i c j x hi hj;exact ⟨u,h3,h4,hc h5⟩⟩
end
end Go.Abs

/-
  Names turned: a state seen through other names; states that say less.
-/
namespace Go.Abs
open Go

def Cell.map (φ : Nm→Nm) : Cell→Cell
  | .win m o l c=>.win (φ m) o l c
  | .ptr m o=>.ptr (φ m) o
  | x=>x
def AVal.map1 (φ : Nm→Nm) : AVal→AVal
  | .c x=>.c (x.map φ)
  | .agg cs=>.agg (cs.map (·.map φ))
  | .fn f cs=>.fn f (cs.map (·.map φ))
  | .accv m n=>.accv (φ m) n
  | .accp m o=>.accp (φ m) o
  | .tup xs=>.tup xs
def AVal.map (φ : Nm→Nm) : AVal→AVal
  | .tup xs=>.tup (xs.map (·.map1 φ))
  | x=>x.map1 φ
def AObj.map (φ : Nm→Nm) : AObj→AObj
  | .cells ty cs=>.cells ty (cs.map (·.map φ))
  | .ints ty k L=>.ints ty k L
  | .fix x=>.fix x
  | .row ty cs=>.row ty (cs.map (·.map φ))
  | .acc ty sz L=>.acc ty sz (L.map (·.map (·.map φ)))

theorem AObj.real_map (φ : Nm→Nm) (o : AObj) : (o.map φ).real = o.real:=by
  cases o with
  | acc ty sz L=>cases L <;> rfl
  | _=>rfl
theorem AObj.acc_map (φ : Nm→Nm) (o : AObj) : (o.map φ).isAcc = o.isAcc:=by cases o <;> rfl

def Cell.cl (S : Store) (x : Cell) : Prop:=∀ m,x.at m→S m ≠ none
def AVal.cl (S : Store) (x : AVal) : Prop:=∀ m,x.at m→S m ≠ none
def AObj.cl (S : Store) : AObj→Prop
  | .cells _ cs=>∀ x ∈ cs,x.cl S
  | .acc _ _ L=>∀ c ∈ L,∀ x ∈ c,x.cl S
  | .ints ..=>True
  | .fix _=>True
  | .row _ cs=>∀ x ∈ cs,x.cl S

def AObj.cls : AObj→List Cell
  | .cells _ cs=>cs
  | .acc _ _ L=>L.flatten
  | .ints ..=>[]
  | .fix _=>[]
  | .row _ cs=>cs
theorem AObj.cl_cls {S : Store} {o : AObj} : o.cl S ↔ ∀ x ∈ o.cls,x.cl S:=by
  cases o with
  | cells ty cs=>exact Iff.rfl
  | row ty cs=>exact Iff.rfl
  | ints ty k L=>exact ⟨fun _ x hx=>absurd hx List.not_mem_nil,fun _=>trivial⟩
  | fix x=>exact ⟨fun _ x hx=>absurd hx List.not_mem_nil,fun _=>trivial⟩
  | acc ty sz L=>exact ⟨fun h x hx=>by obtain ⟨c,hc,hx⟩:=List.mem_flatten.1 hx;exact h c hc x hx,fun h c hc x hx=>h x (List.mem_flatten.2 ⟨c,hc,hx⟩)⟩

structure Back (φ : Nm→Nm) (S S' : Store) : Prop where
  inj : ∀ m n,S' m ≠ none→S' n ≠ none→φ m = φ n→m = n
  at_ : ∀ m o,S' m = some o→S (φ m) = some (o.map φ)
  cl : ∀ m o,S' m = some o→o.cl S'

section
variable {φ : Nm→Nm} {w : World} {ρ : Nm→Nat} {S S' : Store}

theorem Back.fr (h : Back φ S S') {b : Nat} (hb : Fr w ρ S b) : Fr w (fun m=>ρ (φ m)) S' b :=
  ⟨hb.1,fun m o hm hr=>hb.2 (φ m) _ (h.at_ m o hm) (by rw [AObj.real_map];exact hr)⟩

theorem Back.imp (h : Back φ S S') (b : Nat) (hb : Fr w ρ S b) : Fr w (fun m=>ρ (φ m)) S' b∧∀ o,w.cell? ⟨b,o,none⟩ = w.cell? ⟨b,o,none⟩:=⟨h.fr hb,fun _=>rfl⟩
theorem Back.intsS (h : Back φ S S') {k : IntKind} {L : List Int} {n : Nat} {v : Value} (hv : IntsS w (Fr w ρ S) k L n v) : IntsS w (Fr w (fun m=>ρ (φ m)) S') k L n v:=hv.imp h.imp
theorem Back.get (h : Back φ S S') {m : Nm} (hm : S' m ≠ none) : ∃ o,S' m = some o∧S (φ m) = some (o.map φ):=by
  cases e : S' m with
  | none=>exact absurd e hm
  | some o=>exact ⟨o,rfl,h.at_ m o e⟩

theorem Back.cellS (h : Back φ S S') {x : Cell} {v : Value} (hc : x.cl S') (hv : CellS w ρ S (x.map φ) v) : CellS w (fun m=>ρ (φ m)) S' x v:=by
  cases x with
  | sc c=>exact hv
  | ints k L=>exact h.intsS hv
  | intc k L n=>exact h.intsS hv
  | seq sz L=>exact SeqS.imp h.imp hv
  | seqc sz L n=>exact SeqS.imp h.imp hv
  | win m off len cmin =>
    obtain ⟨o',e1,e2⟩:=h.get (hc m rfl)
    obtain ⟨⟨o,ho,hr⟩,A,cap,e,h1,h2,h3⟩:=hv
    rw [e2] at ho
    obtain rfl:=Option.some.inj ho
    exact ⟨⟨o',e1,by rw [AObj.acc_map] at hr;exact hr⟩,A,cap,e,h1,h2,h3⟩
  | ptr m off =>
    obtain ⟨o',e1,e2⟩:=h.get (hc m rfl)
    obtain ⟨⟨o,ho,hr⟩,e⟩:=hv
    rw [e2] at ho
    obtain rfl:=Option.some.inj ho
    exact ⟨⟨o',e1,by rw [AObj.acc_map] at hr;exact hr⟩,e⟩
  | pim cs=>exact PimS.imp h.imp hv
  | fx x=>exact hv
  | junk=>trivial

theorem Back.cellsS (h : Back φ S S') {cs : List Cell} {vs : List Value} (hc : ∀ x ∈ cs,x.cl S') (hv : CellsS w ρ S (cs.map (·.map φ)) vs) : CellsS w (fun m=>ρ (φ m)) S' cs vs:=by
  refine ⟨by simpa using hv.1,fun i x hi=>?_⟩
  obtain ⟨u,h1,h2,h3⟩:=hv.2 i (x.map φ) (by simp [hi])
  exact ⟨u,h1,h2,h.cellS (hc x (List.mem_of_getElem? hi)) h3⟩

theorem Back.vs1 (h : Back φ S S') {x : AVal} {v : Value} (hc : ∀ m,x.at1 m→S' m ≠ none) (hv : VS1 w ρ S (x.map1 φ) v) : VS1 w (fun m=>ρ (φ m)) S' x v:=by
  cases x with
  | c x=>exact h.cellS hc hv
  | agg cs=>obtain ⟨vs,e,h1⟩:=hv;exact ⟨vs,e,h.cellsS (fun x hx m hm=>hc m ⟨x,hx,hm⟩) h1⟩
  | fn f cs=>obtain ⟨vs,e,h1⟩:=hv;exact ⟨vs,e,h.cellsS (fun x hx m hm=>hc m ⟨x,hx,hm⟩) h1⟩
  | accv m n=>exact hv
  | accp m o=>exact hv
  | tup xs=>exact hv

theorem Back.vs (h : Back φ S S') {x : AVal} {v : Value} (hc : x.cl S') (hv : VS w ρ S (x.map φ) v) : VS w (fun m=>ρ (φ m)) S' x v:=by
  cases x with
  | c x=>exact h.vs1 (x:=.c x) hc hv
  | agg cs=>exact h.vs1 (x:=.agg cs) hc hv
  | fn f cs=>exact h.vs1 (x:=.fn f cs) hc hv
  | accv m n =>
    obtain ⟨o',e1,e2⟩:=h.get (hc m rfl)
    obtain ⟨ty,sz,L,ho,hn,h1⟩:=hv
    rw [e2] at ho
    cases o' with
    | acc ty' sz' L' =>
      simp only [AObj.map,Option.some.injEq,AObj.acc.injEq] at ho
      obtain ⟨rfl,rfl,rfl⟩:=ho
      exact ⟨ty',sz',L',e1,by simpa using hn,by simpa using h1⟩
    | cells _ _=>simp [AObj.map] at ho
    | ints _ _ _=>simp [AObj.map] at ho
    | fix _=>simp [AObj.map] at ho
    | row _ _=>simp [AObj.map] at ho
  | accp m off =>
    obtain ⟨o',e1,e2⟩:=h.get (hc m rfl)
    obtain ⟨ty,sz,L,ho,h1,h2⟩:=hv
    rw [e2] at ho
    cases o' with
    | acc ty' sz' L' =>
      simp only [AObj.map,Option.some.injEq,AObj.acc.injEq] at ho
      obtain ⟨rfl,rfl,rfl⟩:=ho
      exact ⟨ty',sz',L',e1,by simpa using h1,h2⟩
    | cells _ _=>simp [AObj.map] at ho
    | ints _ _ _=>simp [AObj.map] at ho
    | fix _=>simp [AObj.map] at ho
    | row _ _=>simp [AObj.map] at ho
  | tup xs =>
    obtain ⟨vs,e,hl,h1⟩:=hv
    refine ⟨vs,e,by simpa using hl,fun i x hi=>?_⟩
    obtain ⟨u,h2,h3⟩:=h1 i (x.map1 φ) (by simp [hi])
    exact ⟨u,h2,h.vs1 (fun m hm=>hc m ⟨x,List.mem_of_getElem? hi,hm⟩) h3⟩

theorem Back.objS (h : Back φ S S') {o : AObj} {b : Nat} (hc : o.cl S') (hv : ObjS w ρ S b (o.map φ)) : ObjS w (fun m=>ρ (φ m)) S' b o:=by
  cases o with
  | cells ty cs =>
    obtain ⟨vs,e,hsz,h1⟩:=hv
    refine ⟨vs,e,by simpa using hsz,fun i x hi=>?_⟩
    obtain ⟨u,h2,h3,h4⟩:=h1 i (x.map φ) (by simp [hi])
    exact ⟨u,h2,h3,h.cellS (hc x (List.mem_of_getElem? hi)) h4⟩
  | ints ty k L=>exact hv
  | fix x=>exact hv
  | row ty cs =>
    obtain ⟨vs,e,h1⟩:=hv
    refine ⟨vs,e,fun i x hi=>?_⟩
    obtain ⟨u,h2,h3,h4⟩:=h1 i (x.map φ) (by simp [hi])
    exact ⟨u,h2,h3,h.cellS (hc x (List.mem_of_getElem? hi)) h4⟩
  | acc ty sz L =>
    rcases hv with hv | ⟨vs,e,hz,h1⟩
    · exact .inl (by simpa using hv)
    · refine .inr ⟨vs,e,fun c hc=>by simpa using hz (c.map (·.map φ)) (List.mem_map_of_mem hc),fun i c j x hi hj=>?_⟩
      obtain ⟨u,h2,h3,h4⟩:=h1 i (c.map (·.map φ)) j (x.map φ) (by simp [hi]) (by simp [hj])
      exact ⟨u,h2,h3,h.cellS (hc c (List.mem_of_getElem? hi) x (List.mem_of_getElem? hj)) h4⟩
end

structure EnvS (w : World) (ρ : Nm→Nat) (S : Store) : Prop where
  inj : ∀ m m' o o',S m = some o→S m' = some o'→o.real = true→o'.real = true→ρ m = ρ m'→m = m'
  obj : ∀ m o,S m = some o→ObjS w ρ S (ρ m) o

theorem Back.env {φ : Nm→Nm} {w : World} {ρ : Nm→Nat} {S S' : Store} (h : Back φ S S') (e : EnvS w ρ S) : EnvS w (fun m=>ρ (φ m)) S' where
  inj m m' o o' hm hm' hr hr' he :=
    h.inj m m' (by simp [hm]) (by simp [hm']) (e.inj _ _ _ _ (h.at_ m o hm) (h.at_ m' o' hm') (by rw [AObj.real_map];exact hr) (by rw [AObj.real_map];exact hr') he)
  obj m o hm:=h.objS (h.cl m o hm) (e.obj _ _ (h.at_ m o hm))

theorem Sim.env {w : World} {ρ : Nm→Nat} {st : St} {tm : Array Value} (h : Sim w ρ st tm) : EnvS w ρ st.sg:=⟨h.inj,h.obj⟩

def Nm.isOut : Nm→Bool
  | .out _=>true
  | _=>false

def Weak (st F : St) : Prop:=∀ w ρ tm,Sim w ρ st tm→∃ ρ',Sim w ρ' F tm ∧
  (∀ m o,F.sg m = some o→o.real = true→∃ m' o',st.sg m' = some o'∧o'.real = true∧ρ' m = ρ m'∧(m'.isOut = true→m' = m)) ∧
  (∀ m,m.isOut = true→F.sg m = st.sg m∧ρ' m = ρ m)

theorem Weak.refl (st : St) : Weak st st:=fun _ ρ _ h=>⟨ρ,h,fun m o hm hr=>⟨m,o,hm,hr,rfl,fun _=>rfl⟩,fun _ _=>⟨rfl,rfl⟩⟩

theorem Weak.trans {a b c : St} (h : Weak a b) (k : Weak b c) : Weak a c:=fun w ρ tm hs=>by
  obtain ⟨ρ1,h1,h2,h3⟩:=h w ρ tm hs
  obtain ⟨ρ2,k1,k2,k3⟩:=k w ρ1 tm h1
  refine ⟨ρ2,k1,fun m o hm hr=>?_,fun m hm=>⟨(k3 m hm).1.trans (h3 m hm).1,(k3 m hm).2.trans (h3 m hm).2⟩⟩
  obtain ⟨m1,o1,e1,r1,q1,i1⟩:=k2 m o hm hr
  obtain ⟨m2,o2,e2,r2,q2,i2⟩:=h2 m1 o1 e1 r1
  refine ⟨m2,o2,e2,r2,q1.trans q2,fun hi=>?_⟩
  have e3:=i2 hi
  subst e3
  exact i1 hi

theorem Weak.back {st F : St} (φ : Nm→Nm) (h : Back φ st.sg F.sg) (hout : ∀ m,φ (.out m) = .out m) (hout2 : ∀ m,F.sg m ≠ none→(φ m).isOut = true→φ m = m)
    (hkeep : ∀ m,F.sg (.out m) = st.sg (.out m)) (hfr : ∀ t,F.fr t = .c .junk ∨ ((F.fr t).cl F.sg∧st.fr t = (F.fr t).map φ)) : Weak st F:=fun w ρ tm hs=>by
  refine ⟨fun m=>ρ (φ m),⟨(h.env hs.env).inj,(h.env hs.env).obj,fun t=>?_,fun g cs hg=>(hs.gl g cs hg).imp fun b hb=>⟨⟨hb.1,fun m o hm hr=>hb.2 (φ m) _ (h.at_ m o hm) (by rw [AObj.real_map];exact hr)⟩,fun _=>rfl⟩⟩,fun m o hm hr=>⟨φ m,_,h.at_ m o hm,by rw [AObj.real_map];exact hr,rfl,fun hi=>hout2 m (by simp [hm]) hi⟩,fun m hm=>?_⟩
  · rcases hfr t with e | ⟨hc,e⟩
    · rw [e];trivial
    · have:=hs.fr t
      rw [e] at this
      exact h.vs hc this
  · cases m <;> simp [Nm.isOut] at hm
    rename_i m
    exact ⟨hkeep m,by show ρ (φ (.out m)) = _;rw [hout]⟩

theorem Cell.map_id (x : Cell) : x.map id = x:=by cases x <;> rfl
theorem AVal.map1_id (x : AVal) : x.map1 id = x:=by cases x <;> simp [AVal.map1,Cell.map_id]
theorem AVal.map_id (x : AVal) : x.map id = x:=by
  cases x with
  | tup xs=>simp [AVal.map,AVal.map1_id]
  | c x=>simp [AVal.map,AVal.map1,Cell.map_id]
  | agg x=>simp [AVal.map,AVal.map1,Cell.map_id]
  | fn f x=>simp [AVal.map,AVal.map1,Cell.map_id]
  | accv m n=>rfl
  | accp m o=>rfl
theorem AObj.map_id (x : AObj) : x.map id = x:=by cases x <;> simp [AObj.map,Cell.map_id]

theorem Weak.drop {st F : St} (hsg : ∀ m o,F.sg m = some o→st.sg m = some o∧o.cl F.sg)
    (hkeep : ∀ m,F.sg (.out m) = st.sg (.out m)) (hfr : ∀ t,F.fr t = .c .junk ∨ ((F.fr t).cl F.sg∧st.fr t = F.fr t)) : Weak st F :=
  Weak.back id ⟨fun _ _ _ _ h=>h,fun m o hm=>by rw [AObj.map_id];exact (hsg m o hm).1,fun m o hm=>(hsg m o hm).2⟩ (fun _=>rfl) (fun _ _ _=>rfl) hkeep
    (fun t=>(hfr t).imp (fun h=>h) (fun h=>⟨h.1,by rw [AVal.map_id];exact h.2⟩))
end Go.Abs

/-
  What an operation does to an abstract state: plain operations.
-/
namespace Go.Abs
open Go

abbrev ivl (k : IntKind) (n : Int) : AVal:=.c (.sc (.int k n))
abbrev bvl (b : Bool) : AVal:=.c (.sc (.bool b))
abbrev nils : AVal:=.c (.sc (.slice none 0 0))

def aggT (P : Program) (t : TypeId) : Option Bool:=(P.underlying t).map fun | .struct _ | .array _ _=>true | _=>false

def intE (op : BinOp) (k : IntKind) (a b : Int) (v : AVal) : Prop :=
  match op with
  | .add=>v = ivl k (k.wrap (a + b))
  | .sub=>v = ivl k (k.wrap (a - b))
  | .mul=>v = ivl k (k.wrap (a * b))
  | .quo=>b ≠ 0∧v = ivl k (k.wrap (a.tdiv b))
  | .rem=>b ≠ 0∧v = ivl k (a.tmod b)
  | .and=>v = ivl k (k.wrap (BitVec.ofInt k.bits a &&& BitVec.ofInt k.bits b).toNat)
  | .or=>v = ivl k (k.wrap (BitVec.ofInt k.bits a ||| BitVec.ofInt k.bits b).toNat)
  | .xor=>v = ivl k (k.wrap (BitVec.ofInt k.bits a ^^^ BitVec.ofInt k.bits b).toNat)
  | .andNot=>v = ivl k (k.wrap (BitVec.ofInt k.bits a &&& ~~~BitVec.ofInt k.bits b).toNat)
  | .eql=>v = bvl (a == b)
  | .neq=>v = bvl (a != b)
  | .lss=>v = bvl (a < b)
  | .leq=>v = bvl (a ≤ b)
  | .gtr=>v = bvl (a > b)
  | .geq=>v = bvl (a ≥ b)
  | _=>False

def shiftE (op : BinOp) (k : IntKind) (a b : Int) (v : AVal) : Prop :=
  match op with
  | .shl=>0 ≤ b∧v = ivl k (k.wrap (a * 2 ^ (min b.toNat k.bits)))
  | .shr=>0 ≤ b∧v = ivl k (a.fdiv (2 ^ (min b.toNat k.bits)))
  | _=>False

def boolE (op : BinOp) (a b : Bool) (v : AVal) : Prop :=
  match op with
  | .eql=>v = bvl (a == b)
  | .neq=>v = bvl (a != b)
  | _=>False

def isShift : BinOp→Bool
  | .shl | .shr=>true
  | _=>false

def binE (P : Program) (op : BinOp) (T : TypeId) (x y v : AVal) : Prop :=
  match x,y with
  | .c (.sc (.int k a)),.c (.sc (.int k' b))=>if isShift op then shiftE op k a b v else k = k'∧intE op k a b v
  | .c (.sc (.bool a)),.c (.sc (.bool b))=>P.underlying T = some .bool∧boolE op a b v
  | _,_=>False

def unE (op : UnOp) (x v : AVal) : Prop :=
  match op,x with
  | .neg,.c (.sc (.int k n))=>v = ivl k (k.wrap (0 - n))
  | .xor,.c (.sc (.int k n))=>v = ivl k (k.wrap (BitVec.ofInt k.bits (if k.signed then -1 else k.max) ^^^ BitVec.ofInt k.bits n).toNat)
  | .not,.c (.sc (.bool b))=>v = bvl (!b)
  | _,_=>False

def convE (P : Program) (src dst : TypeId) (x v : AVal) : Prop :=
  match x with
  | .c (.sc (.int _ n))=>P.underlying src ≠ none∧∃ k,P.underlying dst = some (.int k)∧v = ivl k (k.wrap n)
  | _=>False

def fieldAddrE (P : Program) (s : TypeId) (x : AVal) (f : Nat) (v : AVal) : Prop :=
  ∃ fs fd,P.underlying s = some (.struct fs)∧fs[f]? = some fd∧P.cellsOf fd.type ≠ 0 ∧
    match x with
    | .c (.ptr m off)=>v = .c (.ptr m (off + fd.offset))
    | .c (.pim cs)=>v = .c (.pim (cs.drop fd.offset))
    | _=>False

def fieldE (P : Program) (s : TypeId) (x : AVal) (f : Nat) (v : AVal) : Prop :=
  ∃ fs fd,P.underlying s = some (.struct fs)∧fs[f]? = some fd ∧
    match x with
    | .agg cs=>(aggT P fd.type = some true∧P.cellsOf fd.type ≠ 0∧v = .agg ((cs.drop fd.offset).take (P.cellsOf fd.type))) ∨ (aggT P fd.type = some false∧∃ y,cs[fd.offset]? = some y∧v = .c y)
    | _=>False

def indexE (P : Program) (t : TypeId) (x i v : AVal) : Prop :=
  ∃ e,P.underlying t = some (.slice e)∧P.cellsOf e ≠ 0 ∧
    match x,i with
    | .c (.ints k L),.c (.sc (.int _ j))=>P.cellsOf e = 1∧0 ≤ j∧j < L.length∧v = .c (.pim [.sc (.int k (L.getD j.toNat 0))])
    | .c (.intc k L n),.c (.sc (.int _ j))=>P.cellsOf e = 1∧0 ≤ j∧j < n∧v = .c (.pim [.sc (.int k (L.getD j.toNat 0))])
    | .c (.seq sz L),.c (.sc (.int _ j))=>P.cellsOf e = sz∧0 ≤ j∧j < L.length∧v = .c (.pim (L.getD j.toNat []))
    | .c (.seqc sz L n),.c (.sc (.int _ j))=>P.cellsOf e = sz∧0 ≤ j∧j < n∧v = .c (.pim (L.getD j.toNat []))
    | .accv m n,.c (.sc (.int _ j))=>0 ≤ j∧j < n∧v = .accp m (j.toNat * P.cellsOf e)
    | .c (.win m off len _),.c (.sc (.int _ j))=>0 ≤ j∧j < len∧v = .c (.ptr m (off + j.toNat * P.cellsOf e))
    | _,_=>False

def indexA (P : Program) (t : TypeId) (x i v : AVal) : Prop :=
  ∃ n e,P.underlying t = some (.array n e)∧P.cellsOf e = 1 ∧
    match x,i with
    | .c (.pim cs),.c (.sc (.int _ j))=>0 ≤ j∧j < n∧v = .c (.pim (cs.drop j.toNat))
    | _,_=>False

def bndE (r : Operand→AVal) (lo hi : Option Operand) (n c : Nat) (l h : Nat) : Prop :=
  (match lo with | none=>l = 0 | some x=>match r x with | .c (.sc (.int _ i))=>0 ≤ i∧l = i.toNat | _=>False) ∧
  (match hi with | none=>h = n | some x=>match r x with | .c (.sc (.int _ i))=>0 ≤ i∧h = i.toNat | _=>False)∧l ≤ h∧h ≤ c

def sliceE (P : Program) (r : Operand→AVal) (t : TypeId) (x : Operand) (lo hi mx : Option Operand) (v : AVal) : Prop :=
  mx = none∧∃ e,P.underlying t = some (.slice e)∧P.cellsOf e ≠ 0 ∧
    match r x with
    | .c (.ints k L)=>P.cellsOf e = 1∧∃ l h,bndE r lo hi L.length L.length l h∧v = .c (.ints k ((L.drop l).take (h - l)))
    | .c (.intc k L n)=>P.cellsOf e = 1∧∃ l h,bndE r lo hi n L.length l h∧v = .c (.intc k (L.drop l) (h - l))
    | .c (.seq sz L)=>P.cellsOf e = sz∧∃ l h,bndE r lo hi L.length L.length l h∧v = .c (.seq sz ((L.drop l).take (h - l)))
    | .c (.seqc sz L n)=>P.cellsOf e = sz∧∃ l h,bndE r lo hi n L.length l h∧v = .c (.seqc sz (L.drop l) (h - l))
    | .c (.win m off len cm)=>∃ l h,bndE r lo hi len cm l h∧v = .c (.win m (off + l * P.cellsOf e) (h - l) (cm - l))∧(P.cellsOf e = 1 ∨ l = 0)
    | .c (.sc (.slice none 0 0))=>∃ l h,bndE r lo hi 0 0 l h∧v = nils
    | _=>False

def AVal.flat : AVal→Prop
  | .tup _=>False
  | _=>True

def extractE (x : AVal) (i : Nat) (v : AVal) : Prop :=
  match x with
  | .tup xs=>xs[i]? = some v∧v.flat
  | _=>False

def AVal.cells : AVal→List Cell
  | .c x=>[x]
  | .agg cs=>cs
  | _=>[]

def Cell.solid : Cell→Prop
  | .sc v=>v.oneCell' = true
  | .fx _=>True
  | .junk=>False
  | _=>True
def AVal.solid : AVal→Prop
  | .c x=>x.solid
  | .agg _=>True
  | _=>False

def spl (cs : List Cell) (off : Nat) (xs : List Cell) : List Cell:=cs.take off ++ xs ++ cs.drop (off + xs.length)

def fillE (place : Nat→Option (Nat × Nat)) (r : Operand→AVal) : List Cell→List (Nat × Operand)→List Cell→Prop
  | cs,[],out=>out = cs
  | cs,(i,x) :: rest,out=>∃ off size,place i = some (off,size)∧(r x).solid∧(r x).cells.length = size∧off + size ≤ cs.length∧fillE place r (spl cs off (r x).cells) rest out

def placesOf (P : Program) (fs : Array Field) : Array (Nat × Nat):=fs.map fun f=>(f.offset,P.cellsOf f.type)
def zeroOf (P : Program) (t : TypeId) : Option Value:=(P.info? t).bind (·.zero)
def zeroCells (P : Program) (t : TypeId) : Option (List Cell):=(zeroOf P t).map fun z=>z.cells.toList.map cellC

def buildE (P : Program) (r : Operand→AVal) (t : TypeId) (parts : Array (Nat × Operand)) (v : AVal) : Prop :=
  ∃ fs z out,P.underlying t = some (.struct fs)∧(∀ f ∈ fs,P.info? f.type ≠ none)∧zeroCells P t = some z∧(∀ x ∈ z,x.solid) ∧
    fillE (fun i=>(placesOf P fs)[i]?) r z parts.toList out∧v = .agg out

def mkE (r : Operand→AVal) (f : FuncId) (captured : Array Operand) (v : AVal) : Prop :=
  ∃ cs,captured.toList.map r = cs.map AVal.c∧(∀ x ∈ cs,x.solid)∧v = .fn f cs

def lenE (P : Program) (t : TypeId) (x v : AVal) : Prop :=
  (∃ e,P.underlying t = some (.slice e)) ∧
    match x with
    | .c (.ints _ L)=>v = ivl .i64 L.length
    | .c (.intc _ _ n)=>v = ivl .i64 n
    | .c (.seq _ L)=>v = ivl .i64 L.length
    | .c (.seqc _ _ n)=>v = ivl .i64 n
    | .c (.win _ _ n _)=>v = ivl .i64 n
    | .accv _ n=>v = ivl .i64 n
    | .c (.sc (.slice none 0 0))=>v = ivl .i64 0
    | _=>False

def minE (b : Builtin) (xs : List AVal) (v : AVal) : Prop :=
  match b,xs with
  | .min,[.c (.sc (.int k x)),.c (.sc (.int _ y))]=>v = ivl k (if y < x then y else x)
  | .max,[.c (.sc (.int k x)),.c (.sc (.int _ y))]=>v = ivl k (if x < y then y else x)
  | .min,[.c (.sc (.int k x)),.c (.sc (.int _ y)),.c (.sc (.int _ z))]=>v = ivl k (if z < (if y < x then y else x) then z else (if y < x then y else x))
  | _,_=>False

def builtinE (P : Program) (r : Operand→AVal) (b : Builtin) (args : List Operand) (tys : List TypeId) (v : AVal) : Prop :=
  match b,args,tys with
  | .len,[x],[t]=>lenE P t (r x) v
  | .min,args,_=>minE .min (args.map r) v
  | .max,args,_=>minE .max (args.map r) v
  | _,_,_=>False

def sindE (P : Program) (t : TypeId) (x i v : AVal) : Prop :=
  P.underlying t = some .string ∧
    match x,i with
    | .c (.sc (.string s)),.c (.sc (.int _ j))=>0 ≤ j∧∃ b,s[j.toNat]? = some b∧v = ivl .u8 b.toNat
    | _,_=>False

/-! ### Floats -/
abbrev fv (a : Option Nat) : AVal:=.c (.fx (.f a))
abbrev zv (a b : Option Nat) : AVal:=.c (.fx (.z a b))
def fO (g : Nat→Nat→Option Nat) : Option Nat→Option Nat→Option Nat
  | some a,some b=>g a b
  | _,_=>none
@[irreducible] def fadd (a b : Option Nat) : Option Nat:=fO FloatKind.f64.format.add a b
@[irreducible] def fsub (a b : Option Nat) : Option Nat:=fO FloatKind.f64.format.sub a b
@[irreducible] def fmul (a b : Option Nat) : Option Nat:=fO FloatKind.f64.format.mul a b
@[irreducible] def fquo (a b : Option Nat) : Option Nat:=fO FloatKind.f64.format.div a b
def ford : Option Nat→Option Nat→Option Ordering
  | some a,some b=>FloatKind.f64.format.order a b
  | _,_=>none
@[irreducible] def fcmp (op : BinOp) (a b : Option Nat) : Bool :=
  match op with
  | .eql=>ford a b == some .eq
  | .neq=>ford a b != some .eq
  | .lss=>ford a b == some .lt
  | .leq=>ford a b == some .lt || ford a b == some .eq
  | .gtr=>ford a b == some .gt
  | .geq=>ford a b == some .gt || ford a b == some .eq
  | _=>false
def fneg (a : Option Nat) : Option Nat:=a.map (Op.negFloat .f64)
def isCmp : BinOp→Bool
  | .eql | .neq | .lss | .leq | .gtr | .geq=>true
  | _=>false

def fbinE (op : BinOp) (x y v : AVal) : Prop :=
  match x,y with
  | .c (.fx (.f a)),.c (.fx (.f b))=>match op with
    | .add=>v = fv (fadd a b)
    | .sub=>v = fv (fsub a b)
    | .mul=>v = fv (fmul a b)
    | .quo=>v = fv (fquo a b)
    | op=>isCmp op = true∧v = bvl (fcmp op a b)
  | .c (.fx (.z a b)),.c (.fx (.z c d))=>match op with
    | .add=>v = zv (fadd a c) (fadd b d)
    | .sub=>v = zv (fsub a c) (fsub b d)
    | .eql=>v = bvl (fcmp .eql a c && fcmp .eql b d)
    | .neq=>v = bvl (!(fcmp .eql a c && fcmp .eql b d))
    | _=>False
  | _,_=>False
def funE (op : UnOp) (x v : AVal) : Prop :=
  match op,x with
  | .neg,.c (.fx (.f a))=>v = fv (fneg a)
  | .neg,.c (.fx (.z a b))=>v = zv (fneg a) (fneg b)
  | _,_=>False
def fconvE (P : Program) (s d : TypeId) (x v : AVal) : Prop :=
  match x with
  | .c (.sc (.int _ n))=>P.underlying s ≠ none∧P.underlying d = some (.float .f64)∧v = fv (some (FloatKind.f64.nearest n))
  | .c (.fx (.f a))=>P.underlying s = some (.float .f64)∧((P.underlying d = some (.float .f64)∧v = fv a) ∨
      ∃ k p n,P.underlying d = some (.int k)∧a = some p∧(FloatKind.f64.decode p).toInt .zero = some n∧k.min ≤ n∧n ≤ k.max∧v = ivl k n)
  | _=>False
def fbuiltE (b : Builtin) (xs : List AVal) (v : AVal) : Prop :=
  match b,xs with
  | .complex,[.c (.fx (.f a)),.c (.fx (.f b))]=>v = zv a b
  | .real,[.c (.fx (.z a _))]=>v = fv a
  | .imag,[.c (.fx (.z _ b))]=>v = fv b
  | _,_=>False
def FE (P : Program) (r : Operand→AVal) (op : Op) (v : AVal) : Prop :=
  match op with
  | .binOp op _ x y _=>fbinE op (r x) (r y) v
  | .unOp op _ x=>funE op (r x) v
  | .convert s d x=>fconvE P s d (r x) v
  | .call c=>match c.callee with | .builtin b=>fbuiltE b (c.args.toList.map r) v | _=>False
  | _=>False

def PE0 (P : Program) (r : Operand→AVal) (op : Op) (v : AVal) : Prop :=
  match op with
  | .move x=>v = r x
  | .assign x=>v = r x
  | .pick c a b=>match r c with | .c (.sc (.bool t))=>v = if t then r a else r b | _=>False
  | .nilCheck x=>match r x with | .c (.ptr _ _)=>v = r x | .c (.pim _)=>v = r x | .fn _ _=>v = r x | _=>False
  | .binOp op T x y _=>binE P op T (r x) (r y) v
  | .unOp op _ x=>unE op (r x) v
  | .convert s d x=>convE P s d (r x) v
  | .fieldAddr s x f=>fieldAddrE P s (r x) f v
  | .field s x f=>fieldE P s (r x) f v
  | .indexAddr t x i=>indexE P t (r x) (r i) v ∨ indexA P t (r x) (r i) v
  | .slice t x lo hi mx=>sliceE P r t x lo hi mx v
  | .index t x i=>sindE P t (r x) (r i) v
  | .extract x i=>extractE (r x) i v
  | .build t ps=>buildE P r t ps v
  | .makeFunc g first cap=>match g with | .func f=>first = #[]∧mkE r f cap v | _=>False
  | .call c=>match c.callee with | .builtin b=>builtinE P r b c.args.toList c.argTypes.toList v | _=>False
  | _=>False
def PE (P : Program) (r : Operand→AVal) (op : Op) (v : AVal) : Prop:=PE0 P r op v ∨ FE P r op v
end Go.Abs

/-
  Plain operations, run.
-/
namespace Go.Abs
open Go

section
variable {P : Program} {w : World} {ρ : Nm→Nat} {S : Store}

theorem run_underlying' {t : TypeId} {d : TypeDesc} (h : P.underlying t = some d) (w : World) : (underlying t).run P w = .ok d w:=by
  simp [underlying,h]
theorem run_sizeOf' {t : TypeId} (h : P.cellsOf t ≠ 0) (w : World) : (sizeOf t).run P w = .ok (P.cellsOf t) w:=by
  unfold Program.cellsOf at *
  cases e : P.info? t with
  | none=>simp [e] at h
  | some i=>simp [sizeOf,typeInfo,e]
theorem run_sizeOf'' {t : TypeId} (h : P.info? t ≠ none) (w : World) : (sizeOf t).run P w = .ok (P.cellsOf t) w:=by
  unfold Program.cellsOf at *
  cases e : P.info? t with
  | none=>simp [e] at h
  | some i=>simp [sizeOf,typeInfo,e]
theorem run_isAgg' {t : TypeId} {b : Bool} (h : aggT P t = some b) (w : World) : (isAgg t).run P w = .ok b w:=by
  unfold aggT at h
  cases e : P.underlying t with
  | none=>simp [e] at h
  | some d =>
    rw [e] at h
    simp only [Option.map_some,Option.some.injEq] at h
    simp only [isAgg,Sem.run_bind,run_underlying' e,Result.andThen_ok]
    cases d <;> simp_all

theorem vs_sc {a u : Value} (h : VS w ρ S (.c (.sc a)) u) : u = a:=h

theorem run_equal_bool {T : TypeId} (hT : P.underlying T = some .bool) (p q : Bool) (w : World) : (Op.equal T (.bool p) (.bool q)).run P w = .ok (p == q) w:=by
  have : ∀ d,(Op.equalIn (d + 1) T (.bool p) (.bool q)).run P w = .ok (p == q) w:=fun d=>by simp [Op.equalIn,run_underlying' hT]
  exact this 9999

theorem binE_run {op : BinOp} {T : TypeId} {x y : Operand} {xv yv v : AVal} {a b : Value} (hx : VS w ρ S xv a) (hy : VS w ρ S yv b) (h : binE P op T xv yv v) :
    ∃ u,(do eqGuard op T x y a b;binOp op T a b : Sem Value).run P w = .ok u w∧VS w ρ S v u:=by
  unfold binE at h
  split at h
  · rename_i k p k' q
    have ha:=vs_sc hx
    have hb:=vs_sc hy
    subst ha;subst hb
    have eg : (eqGuard op T x y (.int k p) (.int k' q)).run P w = .ok () w:=by cases op <;> rfl
    simp only [Sem.run_bind,eg,Result.andThen_ok]
    by_cases hs : isShift op = true
    · rw [if_pos hs] at h
      cases op <;> simp only [isShift,Bool.false_eq_true] at hs <;> (obtain ⟨h0,rfl⟩:=h;refine ⟨_,?_,rfl⟩;simp [binOp,Op.shift,Int.not_lt.2 h0])
    · rw [if_neg hs] at h
      obtain ⟨rfl,h⟩:=h
      cases op <;> simp only [intE] at h <;> first
        | exact h.elim
        | (obtain ⟨h0,rfl⟩:=h;refine ⟨_,?_,rfl⟩;simp [binOp,Op.intDiv,h0];done)
        | (subst h;refine ⟨_,?_,rfl⟩;simp [binOp,Op.intArith,Op.intBits,Op.intCmp];done)
  · rename_i p q
    have ha:=vs_sc hx
    have hb:=vs_sc hy
    subst ha;subst hb
    have eg : (eqGuard op T x y (.bool p) (.bool q)).run P w = .ok () w:=by cases op <;> rfl
    simp only [Sem.run_bind,eg,Result.andThen_ok]
    obtain ⟨hT,h⟩:=h
    cases op <;> simp only [boolE] at h <;> first
      | exact h.elim
      | (subst h;refine ⟨_,?_,rfl⟩;simp only [binOp,Sem.run_bind,run_equal_bool hT,Result.andThen_ok,Sem.run_pure];first | done | rfl)
  · exact h.elim

theorem unE_run {op : UnOp} {xv v : AVal} {a : Value} (hx : VS w ρ S xv a) (h : unE op xv v) :
    ∃ u,(Op.unary op a).run P w = .ok u w∧VS w ρ S v u:=by
  unfold unE at h
  split at h <;> first
    | exact h.elim
    | (have ha:=vs_sc hx;subst ha;subst h;refine ⟨_,?_,rfl⟩;simp [Op.unary,Op.intArith,Op.intBits];done)

theorem convE_run {s d : TypeId} {xv v : AVal} {a : Value} (hx : VS w ρ S xv a) (h : convE P s d xv v) :
    ∃ u,(convert s d a).run P w = .ok u w∧VS w ρ S v u:=by
  unfold convE at h
  split at h
  · obtain ⟨h1,k,h2,rfl⟩:=h
    have ha:=vs_sc hx
    subst ha
    cases e : P.underlying s with
    | none=>exact absurd e h1
    | some ds=>exact ⟨_,by simp [convert,run_underlying' e,run_underlying' h2,Conv.intToInt],rfl⟩
  · exact h.elim

theorem fieldAddrE_run {s : TypeId} {f : Nat} {xv v : AVal} {a : Value} (hx : VS w ρ S xv a) (h : fieldAddrE P s xv f v) :
    ∃ u,(Instr.fieldAt s a f).run P w = .ok u w∧VS w ρ S v u:=by
  obtain ⟨fs,fd,h1,h2,h3,h4⟩:=h
  split at h4
  · subst h4
    obtain ⟨ho,rfl⟩:=hx
    refine ⟨_,?_,⟨ho,rfl⟩⟩
    simp only [Instr.fieldAt,Sem.run_bind,run_underlying' h1,Result.andThen_ok,h2,Instr.sureAddr,Sem.run_pure,fieldPlace,run_sizeOf' h3,Sem.run_ite,if_neg h3]
    unfold Addr.add
    split <;> simp_all
  · subst h4
    obtain ⟨b,off,rfl,hf,hc⟩:=hx
    refine ⟨.pointer (some ⟨b,off + fd.offset,none⟩),?_,⟨b,off + fd.offset,rfl,hf,fun j x hj=>?_⟩⟩
    · simp only [Instr.fieldAt,Sem.run_bind,run_underlying' h1,Result.andThen_ok,h2,Instr.sureAddr,Sem.run_pure,fieldPlace,run_sizeOf' h3,Sem.run_ite,if_neg h3]
      unfold Addr.add
      split <;> simp_all
    · rw [List.getElem?_drop] at hj
      obtain ⟨u,hu,hs⟩:=hc _ x hj
      exact ⟨u,by rw [Nat.add_assoc];exact hu,hs⟩
  · exact h4.elim

theorem CellsS.drop {cs : List Cell} {vs : List Value} (h : CellsS w ρ S cs vs) (n : Nat) : CellsS w ρ S (cs.drop n) (vs.drop n) :=
  ⟨by simp [h.1],fun i x hi=>by
    rw [List.getElem?_drop] at hi
    obtain ⟨u,h1,h2,h3⟩:=h.2 _ x hi
    exact ⟨u,by rw [List.getElem?_drop];exact h1,h2,h3⟩⟩
theorem CellsS.take {cs : List Cell} {vs : List Value} (h : CellsS w ρ S cs vs) (n : Nat) : CellsS w ρ S (cs.take n) (vs.take n) :=
  ⟨by simp [h.1],fun i x hi=>by
    have hlt : i < n:=by
      rcases Nat.lt_or_ge i n with h | h
      · exact h
      · rw [List.getElem?_eq_none (by simp;omega)] at hi;cases hi
    rw [List.getElem?_take_of_lt hlt] at hi
    obtain ⟨u,h1,h2,h3⟩:=h.2 _ x hi
    exact ⟨u,by rw [List.getElem?_take_of_lt hlt];exact h1,h2,h3⟩⟩

theorem fieldE_run {s : TypeId} {f : Nat} {xv v : AVal} {a : Value} (hx : VS w ρ S xv a) (h : fieldE P s xv f v) :
    ∃ u,(Instr.field s a f).run P w = .ok u w∧VS w ρ S v u:=by
  obtain ⟨fs,fd,h1,h2,h4⟩:=h
  split at h4
  · obtain ⟨vs,rfl,hc⟩:=hx
    rcases h4 with ⟨ha,h3,rfl⟩ | ⟨ha,y,hy,rfl⟩
    · refine ⟨.agg (vs.extract fd.offset (fd.offset + P.cellsOf fd.type)),?_,⟨_,rfl,?_⟩⟩
      · simp [Instr.field,run_underlying' h1,h2,asAgg,part,run_isAgg' ha,run_sizeOf' h3]
      · have:=(hc.drop fd.offset).take (P.cellsOf fd.type)
        simpa [List.extract_eq_take_drop] using this
    · obtain ⟨u,hu,_,hs⟩:=hc.2 _ _ hy
      refine ⟨u,?_,hs⟩
      have hu' : vs[fd.offset]? = some u:=by simpa using hu
      simp [Instr.field,run_underlying' h1,h2,asAgg,part,run_isAgg' ha,hu']
  · exact h4.elim

theorem add_pl (b off n : Nat) : (⟨b,off,none⟩ : Addr).add n = ⟨b,off + n,none⟩:=by unfold Addr.add;split <;> simp_all

theorem indexA_run {t : TypeId} {xv iv v : AVal} {a i : Value} (hx : VS w ρ S xv a) (hi : VS w ρ S iv i) (h : indexA P t xv iv v) :
    ∃ u,(Instr.indexAt t a i).run P w = .ok u w∧VS w ρ S v u:=by
  obtain ⟨n,e,h1,h2,h3⟩:=h
  split at h3
  · obtain ⟨h5,h6,rfl⟩:=h3
    have:=vs_sc hi
    subst this
    obtain ⟨b,off,rfl,hf,hc⟩:=hx
    rename_i cs k' j
    refine ⟨.pointer (some ⟨b,off + j.toNat,none⟩),?_,⟨b,off + j.toNat,rfl,hf,fun q x hq=>?_⟩⟩
    · simp [Instr.indexAt,asIntOf,Instr.sureAddr,run_underlying' h1,run_sizeOf' (P:=P) (t:=e) (by rw [h2];decide),h2,h5,h6,add_pl]
    · rw [List.getElem?_drop] at hq
      obtain ⟨u,hu,hs⟩:=hc _ x hq
      exact ⟨u,by rw [Nat.add_assoc];exact hu,hs⟩
  · exact h3.elim

theorem indexE_run {t : TypeId} {xv iv v : AVal} {a i : Value} (hx : VS w ρ S xv a) (hi : VS w ρ S iv i) (h : indexE P t xv iv v) :
    ∃ u,(Instr.indexAt t a i).run P w = .ok u w∧VS w ρ S v u:=by
  obtain ⟨e,h1,h2,h3⟩:=h
  split at h3
  · obtain ⟨h4,h5,h6,rfl⟩:=h3
    have:=vs_sc hi
    subst this
    obtain ⟨A,cap,rfl,h7,h8,h9⟩:=hx
    rename_i k L k' j
    obtain ⟨b,off,rfl,hf,hc⟩:=h9 (by omega)
    refine ⟨.pointer (some ⟨b,off + j.toNat,none⟩),?_,⟨b,off + j.toNat,rfl,hf,fun q x hq=>?_⟩⟩
    · simp [Instr.indexAt,asIntOf,run_underlying' h1,run_sizeOf' h2,h5,h6,h4,add_pl]
    · match q,hq with
      | 0,hq =>
        simp only [List.getElem?_cons_zero,Option.some.injEq] at hq
        subst hq
        refine ⟨_,hc j.toNat _ (by rw [List.getD_eq_getElem?_getD,List.getElem?_eq_getElem (by omega)];rfl),.sc rfl⟩
  · obtain ⟨h4,h5,h6,rfl⟩:=h3
    have:=vs_sc hi
    subst this
    obtain ⟨A,cap,rfl,h7,h8,h9⟩:=hx
    rename_i k L n k' j
    obtain ⟨b,off,rfl,hf,hc⟩:=h9 (by omega)
    refine ⟨.pointer (some ⟨b,off + j.toNat,none⟩),?_,⟨b,off + j.toNat,rfl,hf,fun q x hq=>?_⟩⟩
    · simp [Instr.indexAt,asIntOf,run_underlying' h1,run_sizeOf' h2,h5,h6,h4,add_pl]
    · match q,hq with
      | 0,hq =>
        simp only [List.getElem?_cons_zero,Option.some.injEq] at hq
        subst hq
        refine ⟨_,hc j.toNat _ (by rw [List.getD_eq_getElem?_getD,List.getElem?_eq_getElem (by omega)];rfl),.sc rfl⟩
  · obtain ⟨h4,h5,h6,rfl⟩:=h3
    have:=vs_sc hi
    subst this
    obtain ⟨A,cap,rfl,-,h7,h8,h9⟩:=hx
    rename_i sz L k' j
    obtain ⟨b,off,rfl,hf,hc⟩:=h9 (by omega)
    have hlt : j.toNat < L.length:=by omega
    refine ⟨.pointer (some ⟨b,off + j.toNat * sz,none⟩),?_,⟨b,off + j.toNat * sz,rfl,hf,fun q x hq=>?_⟩⟩
    · simp [Instr.indexAt,asIntOf,run_underlying' h1,run_sizeOf' h2,h5,h6,h4,add_pl]
    · rw [List.getD_eq_getElem?_getD,List.getElem?_eq_getElem hlt,Option.getD_some] at hq
      obtain ⟨u,hu,hs⟩:=hc j.toNat _ q x (List.getElem?_eq_getElem hlt) hq
      exact ⟨u,by rw [Nat.add_assoc];exact hu,hs⟩
  · obtain ⟨h4,h5,h6,rfl⟩:=h3
    have:=vs_sc hi
    subst this
    obtain ⟨A,cap,rfl,h7,h8,h8',h9⟩:=hx
    rename_i sz L n k' j
    obtain ⟨b,off,rfl,hf,hc⟩:=h9 (by omega)
    have hlt : j.toNat < L.length:=by omega
    refine ⟨.pointer (some ⟨b,off + j.toNat * sz,none⟩),?_,⟨b,off + j.toNat * sz,rfl,hf,fun q x hq=>?_⟩⟩
    · simp [Instr.indexAt,asIntOf,run_underlying' h1,run_sizeOf' h2,h5,h6,h4,add_pl]
    · rw [List.getD_eq_getElem?_getD,List.getElem?_eq_getElem hlt,Option.getD_some] at hq
      obtain ⟨u,hu,hs⟩:=hc j.toNat _ q x (List.getElem?_eq_getElem hlt) hq
      exact ⟨u,by rw [Nat.add_assoc];exact hu,hs⟩
  · obtain ⟨h5,h6,rfl⟩:=h3
    have:=vs_sc hi
    subst this
    obtain ⟨ty,sz,L,hm,hn,h7⟩:=hx
    rename_i m n k' j
    have hne : L ≠ []:=fun e=>by subst e;simp at hn;omega
    rcases h7 with ⟨h7,-⟩ | ⟨-,cap,rfl,-⟩
    · exact absurd h7 hne
    · refine ⟨.pointer (some ⟨ρ m,0 + j.toNat * P.cellsOf e,none⟩),?_,ty,sz,L,hm,hne,by rw [Nat.zero_add]⟩
      simp [Instr.indexAt,asIntOf,run_underlying' h1,run_sizeOf' h2,h5,h6,hn,add_pl]
  · obtain ⟨h5,h6,rfl⟩:=h3
    have:=vs_sc hi
    subst this
    obtain ⟨ho,A,cap,rfl,h7,h8,h9⟩:=hx
    rename_i m off len cm k' j
    obtain ⟨rfl,_⟩:=h9 (by omega)
    exact ⟨_,by simp [Instr.indexAt,asIntOf,run_underlying' h1,run_sizeOf' h2,h5,h6,add_pl],ho,rfl⟩
  · exact h3.elim

theorem extractE_run {xv v : AVal} {a : Value} {i : Nat} (hx : VS w ρ S xv a) (h : extractE xv i v) :
    ∃ u,(Instr.extract a i).run P w = .ok u w∧VS w ρ S v u:=by
  unfold extractE at h
  split at h
  · obtain ⟨vs,rfl,hl,hc⟩:=hx
    obtain ⟨u,hu,hs⟩:=hc _ _ h.1
    refine ⟨u,by simp [Instr.extract,hu],?_⟩
    cases v with
    | tup xs=>exact hs.elim
    | accv m n=>exact hs.elim
    | accp m o=>exact hs.elim
    | _=>exact hs
  · exact h.elim

theorem lenE_run {t ty : TypeId} {xv v : AVal} {a : Value} (hx : VS w ρ S xv a) (h : lenE P t xv v) :
    ∃ u,(Builtin.len_ #[t] ty #[a]).run P w = .ok u w∧VS w ρ S v u:=by
  obtain ⟨⟨e,h1⟩,h2⟩:=h
  split at h2
  · subst h2;obtain ⟨A,cap,rfl,_⟩:=hx;exact ⟨_,by simp [Builtin.len_,run_underlying' h1,goInt],rfl⟩
  · subst h2;obtain ⟨A,cap,rfl,_⟩:=hx;exact ⟨_,by simp [Builtin.len_,run_underlying' h1,goInt],rfl⟩
  · subst h2;obtain ⟨A,cap,rfl,_⟩:=hx;exact ⟨_,by simp [Builtin.len_,run_underlying' h1,goInt],rfl⟩
  · subst h2;obtain ⟨A,cap,rfl,_⟩:=hx;exact ⟨_,by simp [Builtin.len_,run_underlying' h1,goInt],rfl⟩
  · subst h2;obtain ⟨_,A,cap,rfl,_⟩:=hx;exact ⟨_,by simp [Builtin.len_,run_underlying' h1,goInt],rfl⟩
  · subst h2;obtain ⟨ty,sz,L,hm,rfl,⟨rfl,A,rfl⟩ | ⟨-,cap,rfl,-⟩⟩:=hx <;> exact ⟨_,by simp [Builtin.len_,run_underlying' h1,goInt],rfl⟩
  · subst h2;have:=vs_sc hx;subst this;exact ⟨_,by simp [Builtin.len_,run_underlying' h1,goInt],rfl⟩
  · exact h2.elim
end
end Go.Abs

/-
  Plain operations, run: slices, structs; all of them in one.
-/
namespace Go.Abs
open Go

section
variable {P : Program} {w : World} {ρ : Nm→Nat} {S : Store} {r : Operand→AVal} {η : Operand→Value}

theorem bndE_run (hr : ∀ x,VS w ρ S (r x) (η x)) {lo hi : Option Operand} {n c l h cap : Nat} (hb : bndE r lo hi n c l h) (hc : c ≤ cap) :
    (Instr.sliceBounds true n cap (lo.map η) (hi.map η) none).run P w = .ok (l,h,cap) w:=by
  obtain ⟨h1,h2,h3,h4⟩:=hb
  have hh : h ≤ cap:=Nat.le_trans h4 hc
  cases hi with
  | none =>
    simp only at h2
    subst h2
    cases lo with
    | none=>simp only at h1;subst h1;simp [Instr.sliceBounds]
    | some x =>
      simp only at h1
      split at h1
      · rename_i k i hx
        obtain ⟨h0,rfl⟩:=h1
        have e:=hr x;rw [hx] at e;have e:=vs_sc e
        simp [Instr.sliceBounds,Instr.sliceBound,e,asIntOf,h0,show i ≤ (h : Int) by omega]
      · exact h1.elim
  | some y =>
    simp only at h2
    split at h2
    · rename_i k j hy
      obtain ⟨g0,rfl⟩:=h2
      have ey:=hr y;rw [hy] at ey;have ey:=vs_sc ey
      have hj : j ≤ (cap : Int):=by omega
      cases lo with
      | none=>simp only at h1;subst h1;simp [Instr.sliceBounds,Instr.sliceBound,ey,asIntOf,g0,hj]
      | some x =>
        simp only at h1
        split at h1
        · rename_i k' i hx
          obtain ⟨h0,rfl⟩:=h1
          have e:=hr x;rw [hx] at e;have e:=vs_sc e
          have hi' : i ≤ (j.toNat : Int):=by omega
          have hi2 : i ≤ j:=by omega
          simp [Instr.sliceBounds,Instr.sliceBound,e,ey,asIntOf,h0,g0,hj]
          intro hq;omega
        · exact h1.elim
    · exact h2.elim

theorem slice_run {t e : TypeId} (h1 : P.underlying t = some (.slice e)) (h2 : P.cellsOf e ≠ 0) {A : Option Addr} {n cap l h : Nat} {lo hi : Option Value}
    (hb : (Instr.sliceBounds true n cap lo hi none).run P w = .ok (l,h,cap) w) :
    (Instr.sliceAt t (.slice A n cap) lo hi none).run P w = .ok (.slice (if cap = l then A else A.map (·.add (l * P.cellsOf e))) (h - l) (cap - l)) w:=by
  simp [Instr.sliceAt,Instr.slice,run_underlying' h1,hb,run_sizeOf' h2]

theorem sliceE_run (hr : ∀ x,VS w ρ S (r x) (η x)) {t : TypeId} {x : Operand} {lo hi mx : Option Operand} {v : AVal} (h : sliceE P r t x lo hi mx v) :
    ∃ u,(Instr.sliceAt t (η x) (lo.map η) (hi.map η) (mx.map η)).run P w = .ok u w∧VS w ρ S v u:=by
  obtain ⟨rfl,e,h1,h2,h3⟩:=h
  have hx:=hr x
  split at h3
  · rename_i k L e0
    rw [e0] at hx
    obtain ⟨h4,l,h,hb,rfl⟩:=h3
    obtain ⟨A,cap,ea,h7,h8,h9⟩:=hx
    refine ⟨_,by rw [ea];exact slice_run h1 h2 (bndE_run hr hb h8),?_⟩
    obtain ⟨-,-,hlh,hhL⟩:=hb
    have hlen : ((L.drop l).take (h - l)).length = h - l:=by simp;omega
    refine ⟨_,cap - l,by rw [hlen],Nat.le_refl _,by rw [hlen];omega,fun hp=>?_⟩
    rw [hlen] at hp
    obtain ⟨b,off,rfl,hf,hc⟩:=h9 (by omega)
    refine ⟨b,off + l,by rw [if_neg (by omega)];simp [add_pl,h4],hf,fun i x hi=>?_⟩
    have hlt : i < h - l:=by
      rcases Nat.lt_or_ge i (h - l) with q | q
      · exact q
      · rw [List.getElem?_eq_none (by simp;omega)] at hi;cases hi
    rw [List.getElem?_take_of_lt hlt,List.getElem?_drop] at hi
    rw [Nat.add_assoc]
    exact hc _ x hi
  · rename_i k L n e0
    rw [e0] at hx
    obtain ⟨h4,l,h,hb,rfl⟩:=h3
    obtain ⟨A,cap,ea,h7,h8,h9⟩:=hx
    refine ⟨_,by rw [ea];exact slice_run h1 h2 (bndE_run hr hb h8),?_⟩
    obtain ⟨-,-,hlh,hhL⟩:=hb
    refine ⟨_,cap - l,rfl,by simp;omega,by simp;omega,fun hp=>?_⟩
    simp only [List.length_drop] at hp
    obtain ⟨b,off,rfl,hf,hc⟩:=h9 (by omega)
    refine ⟨b,off + l,by rw [if_neg (by omega)];simp [add_pl,h4],hf,fun i x hi=>?_⟩
    rw [List.getElem?_drop] at hi
    rw [Nat.add_assoc]
    exact hc _ x hi
  · rename_i sz L e0
    rw [e0] at hx
    obtain ⟨h4,l,h,hb,rfl⟩:=h3
    obtain ⟨A,cap,ea,-,h7,h8,h9⟩:=hx
    refine ⟨_,by rw [ea];exact slice_run h1 h2 (bndE_run hr hb h7),?_⟩
    obtain ⟨-,-,hlh,hhL⟩:=hb
    have hlen : ((L.drop l).take (h - l)).length = h - l:=by simp;omega
    refine ⟨_,cap - l,by rw [hlen],Nat.le_refl _,by rw [hlen];omega,fun c hc=>h8 c (List.mem_of_mem_drop (List.mem_of_mem_take hc)),fun hp=>?_⟩
    rw [hlen] at hp
    obtain ⟨b,off,rfl,hf,hc⟩:=h9 (by omega)
    refine ⟨b,off + l * sz,by rw [if_neg (by omega)];simp [add_pl,h4],hf,fun i c j x hi hj=>?_⟩
    have hlt : i < h - l:=by
      rcases Nat.lt_or_ge i (h - l) with q | q
      · exact q
      · rw [List.getElem?_eq_none (by simp;omega)] at hi;cases hi
    rw [List.getElem?_take_of_lt hlt,List.getElem?_drop] at hi
    obtain ⟨u,hu,hs⟩:=hc _ c j x hi hj
    refine ⟨u,?_,hs⟩
    rw [show off + l * sz + (i * sz + j) = off + ((l + i) * sz + j) by rw [Nat.add_mul];omega]
    exact hu
  · rename_i sz L n e0
    rw [e0] at hx
    obtain ⟨h4,l,h,hb,rfl⟩:=h3
    obtain ⟨A,cap,ea,h6,h7,h8,h9⟩:=hx
    refine ⟨_,by rw [ea];exact slice_run h1 h2 (bndE_run hr hb h7),?_⟩
    obtain ⟨-,-,hlh,hhL⟩:=hb
    refine ⟨_,cap - l,rfl,by simp;omega,by simp;omega,fun c hc=>h8 c (List.mem_of_mem_drop hc),fun hp=>?_⟩
    simp only [List.length_drop] at hp
    obtain ⟨b,off,rfl,hf,hc⟩:=h9 (by omega)
    refine ⟨b,off + l * sz,by rw [if_neg (by omega)];simp [add_pl,h4],hf,fun i c j x hi hj=>?_⟩
    rw [List.getElem?_drop] at hi
    obtain ⟨u,hu,hs⟩:=hc _ c j x hi hj
    refine ⟨u,?_,hs⟩
    rw [show off + l * sz + (i * sz + j) = off + ((l + i) * sz + j) by rw [Nat.add_mul];omega]
    exact hu
  · rename_i m off len cm e0
    rw [e0] at hx
    obtain ⟨l,h,hb,rfl,h4⟩:=h3
    obtain ⟨ho,A,cap,ea,h7,h8,h9⟩:=hx
    refine ⟨_,by rw [ea];exact slice_run h1 h2 (bndE_run hr hb h8),ho,?_⟩
    obtain ⟨-,-,hlh,hhL⟩:=hb
    refine ⟨_,cap - l,rfl,by omega,by omega,fun hp=>?_⟩
    obtain ⟨rfl,hs⟩:=h9 (by omega)
    refine ⟨by rw [if_neg (by omega)];simp [add_pl],?_⟩
    obtain ⟨ty,q,q1,q2⟩:=hs
    exact ⟨ty,q,q1,by rcases h4 with h4 | h4 <;> simp only [h4] <;> omega⟩
  · rename_i e0
    rw [e0] at hx
    obtain ⟨l,h,hb,rfl⟩:=h3
    have ea:=vs_sc hx
    refine ⟨.slice none 0 0,?_,rfl⟩
    have:=slice_run h1 h2 (A:=none) (n:=0) (cap:=0) (bndE_run hr hb (Nat.le_refl 0))
    rw [ea]
    refine this.trans ?_
    obtain ⟨-,-,hlh,hhL⟩:=hb
    have hh : h = 0:=by omega
    have hl : l = 0:=by omega
    subst hh hl
    simp
  · exact h3.elim

theorem mkE_run (hr : ∀ x,VS w ρ S (r x) (η x)) {f : FuncId} {cap : Array Operand} {v : AVal} (h : mkE r f cap v) :
    ∃ u,(Instr.makeFunc (.func f) #[] (cap.map η)).run P w = .ok u w∧VS w ρ S v u:=by
  obtain ⟨cs,h1,h2,rfl⟩:=h
  refine ⟨_,rfl,_,rfl,by simpa using (congrArg List.length h1).symm,fun i x hi=>?_⟩
  have h3 : (cap.toList.map r)[i]? = some (.c x):=by rw [h1];simp [hi]
  rw [List.getElem?_map] at h3
  cases e : cap.toList[i]? with
  | none=>rw [e] at h3;cases h3
  | some y =>
    rw [e] at h3
    simp only [Option.map_some,Option.some.injEq] at h3
    have hy:=hr y
    rw [h3] at hy
    have hs:=h2 x (List.mem_of_getElem? hi)
    refine ⟨η y,by simpa using ⟨y,by simpa using e,rfl⟩,?_,hy⟩
    cases x <;> first
      | (have:=vs_sc hy;rw [this];exact hs)
      | (obtain ⟨A,c,q,_⟩:=hy;rw [q];rfl)
      | (obtain ⟨_,A,c,q,_⟩:=hy;rw [q];rfl)
      | (obtain ⟨_,q⟩:=hy;rw [q];rfl)
      | (obtain ⟨b,o,q,_⟩:=hy;rw [q];rfl)
      | exact FXS.one hy
      | exact hs.elim

theorem CellS.one {x : Cell} {u : Value} (hy : CellS w ρ S x u) (hs : x.solid) : u.oneCell' = true:=by
  cases x <;> first
      | (have : u = _:=hy;rw [this];exact hs)
      | (obtain ⟨A,c,q,_⟩:=hy;rw [q];rfl)
      | (obtain ⟨_,A,c,q,_⟩:=hy;rw [q];rfl)
      | (obtain ⟨_,q⟩:=hy;rw [q];rfl)
      | (obtain ⟨b,o,q,_⟩:=hy;rw [q];rfl)
      | exact FXS.one hy
      | exact hs.elim

theorem solid_cells {x : AVal} {u : Value} (hs : x.solid) (hx : VS w ρ S x u) : CellsS w ρ S x.cells u.cells.toList:=by
  cases x with
  | c x =>
    have h1:=CellS.one hx hs
    have e : u.cells = #[u]:=by cases u <;> first | rfl | (simp [Value.oneCell'] at h1)
    rw [e]
    refine ⟨rfl,fun i y hi=>?_⟩
    match i,hi with
    | 0,hi =>
      simp only [AVal.cells,List.getElem?_cons_zero,Option.some.injEq] at hi
      subst hi
      exact ⟨u,rfl,h1,hx⟩
  | agg cs=>obtain ⟨vs,rfl,h⟩:=hx;exact h
  | fn f cs=>exact hs.elim
  | accv m n=>exact hs.elim
  | accp m o=>exact hs.elim
  | tup xs=>exact hs.elim

theorem CellsS.spl {cs xs : List Cell} {vs us : List Value} (h : CellsS w ρ S cs vs) (hx : CellsS w ρ S xs us) {off : Nat} (hl : off + xs.length ≤ cs.length) :
    CellsS w ρ S (spl cs off xs) (vs.take off ++ us ++ vs.drop (off + us.length)):=by
  have e1:=h.1
  have e2:=hx.1
  refine ⟨by simp [Abs.spl];omega,fun i x hi=>?_⟩
  unfold Abs.spl at hi
  rcases Nat.lt_or_ge i off with q | q
  · rw [List.append_assoc,List.getElem?_append_left (by simp;omega),List.getElem?_take_of_lt q] at hi
    rw [List.append_assoc,List.getElem?_append_left (by simp;omega),List.getElem?_take_of_lt q]
    exact h.2 i x hi
  · rcases Nat.lt_or_ge i (off + xs.length) with q2 | q2
    · rw [List.append_assoc,List.getElem?_append_right (by simp;omega),List.getElem?_append_left (by simp;omega)] at hi
      rw [List.append_assoc,List.getElem?_append_right (by simp;omega),List.getElem?_append_left (by simp;omega)]
      have e3 : (vs.take off).length = (cs.take off).length:=by simp;omega
      rw [e3]
      exact hx.2 _ x hi
    · rw [List.getElem?_append_right (by simp;omega),List.getElem?_drop] at hi
      rw [List.getElem?_append_right (by simp;omega),List.getElem?_drop]
      have e3 : (vs.take off ++ us).length = (cs.take off ++ xs).length:=by simp;omega
      rw [e3,← e2]
      exact h.2 _ x hi

theorem minE_run {b : Builtin} (hr : ∀ x,VS w ρ S (r x) (η x)) {args : Array Operand} {v : AVal} (h : minE b (args.toList.map r) v) :
    ∃ u,(∀ tys ty,b = .min→(Builtin.min_ tys ty (args.map η)).run P w = .ok u w)∧(∀ tys ty,b = .max→(Builtin.max_ tys ty (args.map η)).run P w = .ok u w)∧VS w ρ S v u:=by
  obtain ⟨l⟩:=args
  have two : ∀ x y : AVal,l.map r = [x,y]→∃ p q,l = [p,q]∧r p = x∧r q = y:=by
    intro x y e
    rcases l with _ | ⟨p,_ | ⟨q,_ | ⟨s,t⟩⟩⟩ <;> simp at e
    exact ⟨p,q,rfl,e.1,e.2⟩
  have three : ∀ x y z : AVal,l.map r = [x,y,z]→∃ p q s,l = [p,q,s]∧r p = x∧r q = y∧r s = z:=by
    intro x y z e
    rcases l with _ | ⟨p,_ | ⟨q,_ | ⟨s,_ | ⟨u,t⟩⟩⟩⟩ <;> simp at e
    exact ⟨p,q,s,rfl,e.1,e.2.1,e.2.2⟩
  unfold minE at h
  split at h
  · rename_i k x k' y e
    obtain ⟨p,q,rfl,e1,e2⟩:=two _ _ e
    have ep:=hr p;rw [e1] at ep;have ep:=vs_sc ep
    have eq:=hr q;rw [e2] at eq;have eq:=vs_sc eq
    subst h
    exact ⟨.int k (if y < x then y else x),(fun _ _ _=>by simp [Builtin.min_,ep,eq,Builtin.min2]),(fun _ _ h=>nomatch h),rfl⟩
  · rename_i k x k' y e
    obtain ⟨p,q,rfl,e1,e2⟩:=two _ _ e
    have ep:=hr p;rw [e1] at ep;have ep:=vs_sc ep
    have eq:=hr q;rw [e2] at eq;have eq:=vs_sc eq
    subst h
    exact ⟨.int k (if x < y then y else x),(fun _ _ h=>nomatch h),(fun _ _ _=>by simp [Builtin.max_,ep,eq,Builtin.max2]),rfl⟩
  · rename_i k x k' y k'' z e
    obtain ⟨p,q,s,rfl,e1,e2,e3⟩:=three _ _ _ e
    have ep:=hr p;rw [e1] at ep;have ep:=vs_sc ep
    have eq:=hr q;rw [e2] at eq;have eq:=vs_sc eq
    have es:=hr s;rw [e3] at es;have es:=vs_sc es
    subst h
    exact ⟨.int k (if z < (if y < x then y else x) then z else (if y < x then y else x)),(fun _ _ _=>by simp [Builtin.min_,ep,eq,es,Builtin.min2]),(fun _ _ h=>nomatch h),rfl⟩
  · exact h.elim

/-! ### Building a struct -/
theorem foldl_set_take : ∀ (us : List Value) (i off : Nat) (cs : Array Value),off + i + us.length ≤ cs.size →
    ((us.zipIdx i).foldl (fun cs (p : Value × Nat)=>cs.setIfInBounds (off + p.2) p.1) cs).toList = cs.toList.take (off + i) ++ us ++ cs.toList.drop (off + i + us.length)
  | [],i,off,cs,_=>by simp
  | u :: us,i,off,cs,h=>by
    simp only [List.length_cons] at h
    rw [List.zipIdx_cons,List.foldl_cons,foldl_set_take us (i + 1) off _ (by simp;omega)]
    simp only [Array.toList_setIfInBounds]
    apply List.ext_getElem?
    intro j
    simp only [List.append_assoc,List.getElem?_append,List.length_take,List.length_set,Array.length_toList,List.getElem?_take,List.getElem?_set,List.getElem?_drop,List.length_cons]
    rw [Nat.min_eq_left (by omega),Nat.min_eq_left (by omega)]
    by_cases h1 : j < off + i
    · simp only [show j < off + (i + 1) by omega,if_true,h1,show ¬ off + i = j by omega,if_false]
    · by_cases h2 : j = off + i
      · subst h2
        simp only [show off + i < off + (i + 1) by omega,if_true,Nat.lt_irrefl,if_false,Nat.sub_self]
        simp [show off + i < cs.size by omega]
      · simp only [show ¬ j < off + (i + 1) by omega,if_false,h1]
        obtain ⟨d,rfl⟩ : ∃ d,j = off + i + 1 + d:=⟨j - (off + i + 1),by omega⟩
        rw [show off + i + 1 + d - (off + (i + 1)) = d by omega,show off + i + 1 + d - (off + i) = d + 1 by omega]
        simp only [Nat.add_lt_add_iff_right,List.getElem?_cons_succ]
        by_cases h3 : d < us.length
        · simp only [h3,if_true]
        · simp only [h3,if_false]
          rw [if_neg (by omega)]
          congr 1
          omega

theorem fillE_run (hr : ∀ x,VS w ρ S (r x) (η x)) {place : Nat→Option (Nat × Nat)} : ∀ (parts : List (Nat × Operand)) (cs out : List Cell) (vs : Array Value),CellsS w ρ S cs vs.toList→fillE place r cs parts out →
    ∃ us,Instr.fill place vs (parts.map fun p=>(p.1,η p.2)) = some us∧CellsS w ρ S out us.toList
  | [],cs,out,vs,h,hf=>by
    simp only [fillE] at hf
    subst hf
    exact ⟨vs,rfl,h⟩
  | (i,x) :: rest,cs,out,vs,h,hf=>by
    obtain ⟨off,size,h1,h2,h3,h4,h5⟩:=hf
    have hx:=solid_cells h2 (hr x)
    have e1 : (η x).cells.size = size:=by have:=hx.1;simp at this;omega
    have e2:=h.1
    simp only [Array.length_toList] at e2
    have hsp:=h.spl hx (off:=off) (by rw [h3];exact h4)
    simp only [List.map_cons,Instr.fill,h1]
    have e3 : (!decide ((η x).cells.size = size) || decide (off + (η x).cells.size > vs.size)) = false:=by
      simp [e1];omega
    have hfo:=foldl_set_take (η x).cells.toList 0 off vs (by simp;omega)
    obtain ⟨us,hu1,hu2⟩:=fillE_run hr rest (spl cs off (r x).cells) out ((η x).cells.zipIdx.foldl (fun cs (p : Value × Nat)=>cs.setIfInBounds (off + p.2) p.1) vs) (by
      have : ((η x).cells.zipIdx.foldl (fun cs (p : Value × Nat)=>cs.setIfInBounds (off + p.2) p.1) vs).toList = vs.toList.take off ++ (η x).cells.toList ++ vs.toList.drop (off + (η x).cells.toList.length):=by
        rw [Nat.add_zero] at hfo
        rw [← hfo,← Array.foldl_toList,Array.toList_zipIdx]
      rw [this];exact hsp) h5
    refine ⟨us,?_,hu2⟩
    rw [if_neg (by simpa using e3)]
    exact hu1

theorem run_zeroOf {t : TypeId} {z : Value} (h : zeroOf P t = some z) (w : World) : (zeroValue t).run P w = .ok z w:=by
  unfold zeroOf at h
  cases e : P.info? t with
  | none=>simp [e] at h
  | some i =>
    simp only [e,Option.bind_some] at h
    simp [zeroValue,typeInfo,e,h]

theorem zero_cells {t : TypeId} {cs : List Cell} (h : zeroCells P t = some cs) (hs : ∀ x ∈ cs,x.solid) : ∃ z,zeroOf P t = some z∧CellsS w ρ S cs z.cells.toList:=by
  unfold zeroCells at h
  cases e : zeroOf P t with
  | none=>simp [e] at h
  | some z =>
    simp only [e,Option.map_some,Option.some.injEq] at h
    subst h
    refine ⟨z,rfl,by simp,fun i x hi=>?_⟩
    have hx:=hs x (List.mem_of_getElem? hi)
    rw [List.getElem?_map] at hi
    cases e2 : z.cells.toList[i]? with
    | none=>rw [e2] at hi;cases hi
    | some y =>
      rw [e2] at hi
      simp only [Option.map_some,Option.some.injEq] at hi
      subst hi
      exact ⟨y,rfl,(cellC_S (w:=w) (ρ:=ρ) (S:=S) y).one hx,cellC_S y⟩

theorem run_places : ∀ (fs : List Field) (w : World),(∀ f ∈ fs,P.info? f.type ≠ none) →
    (fs.mapM fun (f : Field)=>(do pure (f.offset,← sizeOf f.type) : Sem (Nat × Nat))).run P w = .ok (fs.map fun f=>(f.offset,P.cellsOf f.type)) w
  | [],w,_=>rfl
  | f :: fs,w,h=>by
    rw [List.mapM_cons]
    have h1:=run_sizeOf'' (h f (by simp)) w
    have h2:=run_places fs w (fun g hg=>h g (by simp [hg]))
    simp only [Sem.run_bind,h1,Result.andThen_ok,Sem.run_pure,h2,List.map_cons]

theorem buildE_run (hr : ∀ x,VS w ρ S (r x) (η x)) {t : TypeId} {parts : Array (Nat × Operand)} {v : AVal} (h : buildE P r t parts v) :
    ∃ u,(Instr.build t (parts.map fun p=>(p.1,η p.2))).run P w = .ok u w∧VS w ρ S v u:=by
  obtain ⟨fs,z,out,h1,h2,h3,h4,h5,rfl⟩:=h
  obtain ⟨zv,h6,h7⟩:=zero_cells (w:=w) (ρ:=ρ) (S:=S) h3 h4
  obtain ⟨us,h8,h9⟩:=fillE_run hr parts.toList z out zv.cells h7 h5
  refine ⟨.agg us,?_,us,rfl,h9⟩
  have h10 : (fs.mapM fun (f : Field)=>(do pure (f.offset,← sizeOf f.type) : Sem (Nat × Nat))).run P w = .ok (placesOf P fs) w:=by
    have:=run_places (P:=P) fs.toList w (fun f hf=>h2 f (by simpa using hf))
    obtain ⟨fl⟩:=fs
    rw [List.mapM_toArray]
    simp only [Sem.run_map,this,Result.andThen_ok]
    simp [placesOf]
  simp only [Instr.build,Sem.run_bind,run_zeroOf h6,Result.andThen_ok,run_underlying' h1,h10]
  have h11 : (parts.map fun p=>(p.1,η p.2)).toList = parts.toList.map fun p=>(p.1,η p.2):=by simp
  rw [h11,h8]
  rfl
end
end Go.Abs

/-
  Plain operations, all in one; loads, new blocks, stores.
-/
namespace Go.Abs
open Go

section
variable {P : Program} {w : World} {ρ : Nm→Nat} {S : Store} {r : Operand→AVal} {η : Operand→Value}

theorem run_then {α : Type} {x : Sem α} {u : α} (h : x.run P w = .ok u w) (f : α→Next) : (do pure (f (← x)) : Sem Next).run P w = .ok (f u) w:=by
  simp [h]

theorem run_then' {α : Type} {x : Sem α} {u : α} {w' : World} (h : x.run P w = .ok u w') (f : α→Next) : (do pure (f (← x)) : Sem Next).run P w = .ok (f u) w':=by
  simp [h]

theorem sindE_run {t : TypeId} {xv iv v : AVal} {a i : Value} (hx : VS w ρ S xv a) (hi : VS w ρ S iv i) (h : sindE P t xv iv v) : ∃ u,(Instr.index t a i).run P w = .ok u w∧VS w ρ S v u:=by
  obtain ⟨hu,h⟩:=h
  split at h
  · rename_i s k j
    obtain ⟨h1,b,h2,rfl⟩:=h
    have e1:=vs_sc hx
    have e2:=vs_sc hi
    subst e1;subst e2
    exact ⟨_,by simp [Instr.index,asIntOf,run_underlying' hu,h1,h2],rfl⟩
  · exact h.elim

theorem PE0_run (hr : ∀ x,VS w ρ S (r x) (η x)) {o : Oper} {v : AVal} (h : PE0 P r o.op v) :
    ∃ u,(execOp η o).run P w = .ok (.value u) w∧VS w ρ S v u:=by
  obtain ⟨dst,op,ty,pos,after,guard⟩:=o
  cases op with
  | move x=>simp only [PE0] at h;subst h;exact ⟨_,rfl,hr _⟩
  | assign x=>simp only [PE0] at h;subst h;exact ⟨_,rfl,hr _⟩
  | pick c a b =>
    simp only [PE0] at h
    split at h
    · rename_i t e
      have ec:=hr c;rw [e] at ec;have ec:=vs_sc ec
      subst h
      refine ⟨if t then η a else η b,by simp [execOp,ec,asBool],?_⟩
      cases t
      · exact hr b
      · exact hr a
    · exact h.elim
  | nilCheck x =>
    simp only [PE0] at h
    have hx:=hr x
    refine ⟨η x,?_,?_⟩
    · split at h
      · rename_i e;rw [e] at hx;obtain ⟨_,q⟩:=hx;simp [execOp,q]
      · rename_i e;rw [e] at hx;obtain ⟨b,o,q,_⟩:=hx;simp [execOp,q]
      · rename_i e;rw [e] at hx;obtain ⟨vs,q,_⟩:=hx;simp [execOp,q]
      · exact h.elim
    · split at h <;> first | exact h.elim | (subst h;exact hx)
  | binOp op T x y T2 =>
    obtain ⟨u,h1,h2⟩:=binE_run (x:=x) (y:=y) (hr x) (hr y) h
    exact ⟨u,run_then h1 _,h2⟩
  | unOp op T x=>obtain ⟨u,h1,h2⟩:=unE_run (hr x) h;exact ⟨u,run_then h1 _,h2⟩
  | convert s d x=>obtain ⟨u,h1,h2⟩:=convE_run (hr x) h;exact ⟨u,run_then h1 _,h2⟩
  | fieldAddr s x f=>obtain ⟨u,h1,h2⟩:=fieldAddrE_run (hr x) h;exact ⟨u,run_then h1 _,h2⟩
  | field s x f=>obtain ⟨u,h1,h2⟩:=fieldE_run (hr x) h;exact ⟨u,run_then h1 _,h2⟩
  | indexAddr t x i=>obtain ⟨u,h1,h2⟩:=h.elim (indexE_run (hr x) (hr i)) (indexA_run (hr x) (hr i));exact ⟨u,run_then h1 _,h2⟩
  | slice t x lo hi mx=>obtain ⟨u,h1,h2⟩:=sliceE_run hr h;exact ⟨u,run_then h1 _,h2⟩
  | index t x i=>obtain ⟨u,h1,h2⟩:=sindE_run (hr x) (hr i) h;exact ⟨u,run_then h1 _,h2⟩
  | extract x i =>
    obtain ⟨u,h1,h2⟩:=extractE_run (hr x) h
    exact ⟨u,run_then h1 _,h2⟩
  | build t ps=>obtain ⟨u,h1,h2⟩:=buildE_run hr h;exact ⟨u,run_then h1 _,h2⟩
  | makeFunc g first cap =>
    simp only [PE0] at h
    split at h
    · obtain ⟨rfl,h⟩:=h
      obtain ⟨u,h1,h2⟩:=mkE_run (P:=P) hr h
      exact ⟨u,by simp [execOp,h1],h2⟩
    · exact h.elim
  | call c =>
    simp only [PE0] at h
    split at h
    · rename_i b e
      obtain ⟨callee,args,tys⟩:=c
      simp only at e h
      subst e
      unfold builtinE at h
      split at h
      · rename_i x t ea et
        have ea' : args = #[x]:=by cases args;simp_all
        have et' : tys = #[t]:=by cases tys;simp_all
        subst ea' et'
        obtain ⟨u,h1,h2⟩:=lenE_run (ty:=ty) (hr x) h
        exact ⟨u,by simp [execOp,resolve,invoke,builtin,h1],h2⟩
      · obtain ⟨u,h1,_,h2⟩:=minE_run (P:=P) hr h
        exact ⟨u,by simp [execOp,resolve,invoke,builtin,h1 tys ty rfl],h2⟩
      · obtain ⟨u,_,h1,h2⟩:=minE_run (P:=P) hr h
        exact ⟨u,by simp [execOp,resolve,invoke,builtin,h1 tys ty rfl],h2⟩
      · exact h.elim
    · exact h.elim
  | _=>exact h.elim

/-! ### Floats -/
theorem vs_f {a : Option Nat} {u : Value} (h : VS w ρ S (fv a) u) : ∃ p,u = .float .f64 p∧FO a p:=h
theorem vs_z {a b : Option Nat} {u : Value} (h : VS w ρ S (zv a b) u) : ∃ p q,u = .complex .f64 p q∧FO a p∧FO b q:=h

theorem nan_read {p : Nat} (h : nanW p) : ∃ s t,FloatKind.f64.format.read p = .nan s t:=by
  have h:=h.2
  unfold FloatKind.decode at h
  cases e : FloatKind.f64.format.read p with
  | nan s t=>exact ⟨s,t,rfl⟩
  | number s m i=>rw [e] at h;cases h
  | infinity s=>rw [e] at h;cases h
theorem add_nan {p q : Nat} (h : nanW p ∨ nanW q) : FloatKind.f64.format.add p q = none∧FloatKind.f64.format.sub p q = none∧FloatKind.f64.format.mul p q = none∧FloatKind.f64.format.div p q = none∧FloatKind.f64.format.order p q = none:=by
  rcases h with h | h <;> obtain ⟨s,t,e⟩:=nan_read h
  · refine ⟨?_,?_,?_,?_,?_⟩ <;> simp [Ieee.Format.add,Ieee.Format.sub,Ieee.Format.mul,Ieee.Format.div,Ieee.Format.order,e,Ieee.Datum.sum,Ieee.Datum.product,Ieee.Datum.quotient,Ieee.Datum.order]
  · refine ⟨?_,?_,?_,?_,?_⟩ <;> cases e2 : FloatKind.f64.format.read p <;> simp [Ieee.Format.add,Ieee.Format.sub,Ieee.Format.mul,Ieee.Format.div,Ieee.Format.order,e,e2,Ieee.Datum.sum,Ieee.Datum.product,Ieee.Datum.quotient,Ieee.Datum.order,Ieee.Datum.opposite]
theorem fO_some {g : Nat→Nat→Option Nat} (hg : ∀ p q,nanW p ∨ nanW q→g p q = none) {a b : Option Nat} {p q : Nat} (ha : FO a p) (hb : FO b q) : g p q = fO g a b:=by
  cases a <;> cases b
  · exact hg p q (.inl ha)
  · exact hg p q (.inl ha)
  · exact hg p q (.inr hb)
  · have ha : p = _:=ha;have hb : q = _:=hb;subst ha;subst hb;rfl
theorem ford_some {a b : Option Nat} {p q : Nat} (ha : FO a p) (hb : FO b q) : FloatKind.f64.format.order p q = ford a b:=by
  cases a <;> cases b
  · exact (add_nan (.inl ha)).2.2.2.2
  · exact (add_nan (.inl ha)).2.2.2.2
  · exact (add_nan (.inr hb)).2.2.2.2
  · have ha : p = _:=ha;have hb : q = _:=hb;subst ha;subst hb;rfl

theorem nanW_cut (t : Nat) : nanW ((t % 2) * 2 ^ 63 + 0x7ff0000000000000 + 1 + (t / 2) % (2 ^ 52 - 1)):=by
  have h1 : t % 2 < 2:=Nat.mod_lt _ (by decide)
  have h2 : (t / 2) % (2 ^ 52 - 1) < 2 ^ 52 - 1:=Nat.mod_lt _ (by decide)
  generalize (t / 2) % (2 ^ 52 - 1) = x at h2
  refine ⟨by omega,?_⟩
  unfold FloatKind.decode FloatKind.format Ieee.Format.read Ieee.Format.signWeight Ieee.Format.binade Ieee.Format.infRung Ieee.double
  have e : (t % 2 * 2 ^ 63 + 0x7ff0000000000000 + 1 + x) % 2 ^ (11 + 52) = 0x7ff0000000000001 + x:=by omega
  simp only [e]
  have q1 : ¬ (0x7ff0000000000001 + x < 2 ^ 52):=by omega
  have q2 : ¬ (0x7ff0000000000001 + x < (2 ^ 11 - 1) * 2 ^ 52):=by omega
  have q3 : ¬ (0x7ff0000000000001 + x = (2 ^ 11 - 1) * 2 ^ 52):=by omega
  show (if 9218868437227405313 + x < 2 ^ 52 then _ else if 9218868437227405313 + x < (2 ^ 11 - 1) * 2 ^ 52 then _ else if 9218868437227405313 + x = (2 ^ 11 - 1) * 2 ^ 52 then _ else _ : Ieee.Datum).isNaN = true
  rw [if_neg q1,if_neg q2,if_neg q3]
  rfl

theorem run_arith {r : Option Nat} {x y : Nat} (w : World) : ∃ p n,(match r with | some r=>pure (.float .f64 r) | none=>do pure (.float .f64 (← choose (.nanBits .f64 x y))) : Sem Value).run P w = .ok (.float .f64 p) { w with drawn:=n }∧FO r p:=by
  cases r with
  | some r=>exact ⟨r,w.drawn,rfl,rfl⟩
  | none=>exact ⟨_,w.drawn + 1,rfl,nanW_cut _⟩

theorem arith_run {op : BinOp} {g : Nat→Nat→Option Nat} {x y : Nat} {a b : Option Nat} (ho : (op = .add∧g = FloatKind.f64.format.add) ∨ (op = .sub∧g = FloatKind.f64.format.sub) ∨ (op = .mul∧g = FloatKind.f64.format.mul) ∨ (op = .quo∧g = FloatKind.f64.format.div))
    (ha : FO a x) (hb : FO b y) (w : World) : ∃ p n,(Op.floatArith op .f64 x y).run P w = .ok (.float .f64 p) { w with drawn:=n }∧FO (fO g a b) p:=by
  have hg : ∀ p q,nanW p ∨ nanW q→g p q = none:=fun p q h=>by
    obtain ⟨h1,h2,h3,h4,-⟩:=add_nan h
    rcases ho with ⟨-,rfl⟩ | ⟨-,rfl⟩ | ⟨-,rfl⟩ | ⟨-,rfl⟩ <;> assumption
  rw [← fO_some hg ha hb]
  rcases ho with ⟨rfl,rfl⟩ | ⟨rfl,rfl⟩ | ⟨rfl,rfl⟩ | ⟨rfl,rfl⟩
  all_goals
    first
    | (obtain ⟨p,n,h1,h2⟩:=run_arith (P:=P) (x:=x) (y:=y) (r:=FloatKind.f64.format.add x y) w;exact ⟨p,n,h1,h2⟩)
    | (obtain ⟨p,n,h1,h2⟩:=run_arith (P:=P) (x:=x) (y:=y) (r:=FloatKind.f64.format.sub x y) w;exact ⟨p,n,h1,h2⟩)
    | (obtain ⟨p,n,h1,h2⟩:=run_arith (P:=P) (x:=x) (y:=y) (r:=FloatKind.f64.format.mul x y) w;exact ⟨p,n,h1,h2⟩)
    | (obtain ⟨p,n,h1,h2⟩:=run_arith (P:=P) (x:=x) (y:=y) (r:=FloatKind.f64.format.div x y) w;exact ⟨p,n,h1,h2⟩)

theorem cmp_run {op : BinOp} {x y : Nat} {a b : Option Nat} (ho : isCmp op = true) (ha : FO a x) (hb : FO b y) (w : World) : (Op.floatCmp op .f64 x y).run P w = .ok (.bool (fcmp op a b)) w:=by
  have e:=ford_some ha hb
  cases op <;> first | (exact absurd ho (by decide)) | (simp only [Op.floatCmp,fcmp,← e,Sem.run_pure])

theorem fbinE_run {op : BinOp} {T : TypeId} {x y : Operand} {xv yv v : AVal} {a b : Value} (hx : VS w ρ S xv a) (hy : VS w ρ S yv b) (h : fbinE op xv yv v) :
    ∃ u n,(do eqGuard op T x y a b;binOp op T a b : Sem Value).run P w = .ok u { w with drawn:=n }∧VS w ρ S v u:=by
  unfold fbinE at h
  split at h
  · rename_i p q
    obtain ⟨m,rfl,hm⟩:=vs_f hx
    obtain ⟨n,rfl,hn⟩:=vs_f hy
    have eg : (eqGuard op T x y (.float .f64 m) (.float .f64 n)).run P w = .ok () w:=by cases op <;> rfl
    simp only [Sem.run_bind,eg,Result.andThen_ok]
    have ar : ∀ g,((op = .add∧g = FloatKind.f64.format.add) ∨ (op = .sub∧g = FloatKind.f64.format.sub) ∨ (op = .mul∧g = FloatKind.f64.format.mul) ∨ (op = .quo∧g = FloatKind.f64.format.div))→v = fv (fO g p q) →
        ∃ u n',(binOp op T (.float .f64 m) (.float .f64 n)).run P w = .ok u { w with drawn:=n' }∧VS w ρ S v u:=fun g hg e=>by
      obtain ⟨r,n',h1,h2⟩:=arith_run (P:=P) hg hm hn w
      refine ⟨.float .f64 r,n',?_,by rw [e];exact ⟨r,rfl,h2⟩⟩
      rw [← h1]
      rcases hg with ⟨rfl,-⟩ | ⟨rfl,-⟩ | ⟨rfl,-⟩ | ⟨rfl,-⟩ <;> simp [binOp]
    split at h
    · exact ar _ (.inl ⟨rfl,rfl⟩) (by rw [h,fadd])
    · exact ar _ (.inr (.inl ⟨rfl,rfl⟩)) (by rw [h,fsub])
    · exact ar _ (.inr (.inr (.inl ⟨rfl,rfl⟩))) (by rw [h,fmul])
    · exact ar _ (.inr (.inr (.inr ⟨rfl,rfl⟩))) (by rw [h,fquo])
    · obtain ⟨hc,rfl⟩:=h
      refine ⟨.bool (fcmp op p q),w.drawn,?_,rfl⟩
      have:=cmp_run (P:=P) hc hm hn w
      rw [show ({ w with drawn:=w.drawn } : World) = w from rfl,← this]
      cases op <;> first | (exact absurd hc (by decide)) | simp [binOp]
  · rename_i a1 a2 b1 b2
    obtain ⟨p1,p2,rfl,hp1,hp2⟩:=vs_z hx
    obtain ⟨q1,q2,rfl,hq1,hq2⟩:=vs_z hy
    have eg : (eqGuard op T x y (.complex .f64 p1 p2) (.complex .f64 q1 q2)).run P w = .ok () w:=by cases op <;> rfl
    simp only [Sem.run_bind,eg,Result.andThen_ok]
    have ar : ∀ g,((op = .add∧g = FloatKind.f64.format.add) ∨ (op = .sub∧g = FloatKind.f64.format.sub))→v = zv (fO g a1 b1) (fO g a2 b2) →
        ∃ u n',(binOp op T (.complex .f64 p1 p2) (.complex .f64 q1 q2)).run P w = .ok u { w with drawn:=n' }∧VS w ρ S v u:=fun g hg e=>by
      have hg' : (op = .add∧g = FloatKind.f64.format.add) ∨ (op = .sub∧g = FloatKind.f64.format.sub) ∨ (op = .mul∧g = FloatKind.f64.format.mul) ∨ (op = .quo∧g = FloatKind.f64.format.div):=by
        rcases hg with h | h
        · exact .inl h
        · exact .inr (.inl h)
      obtain ⟨r1,n1,h1,h2⟩:=arith_run (P:=P) hg' hp1 hq1 w
      obtain ⟨r2,n2,h3,h4⟩:=arith_run (P:=P) hg' hp2 hq2 { w with drawn:=n1 }
      refine ⟨.complex .f64 r1 r2,n2,?_,by rw [e];exact ⟨r1,r2,rfl,h2,h4⟩⟩
      rcases hg with ⟨rfl,-⟩ | ⟨rfl,-⟩ <;> simp [binOp,Op.complexOp,Op.Complex.arith,h1,h3]
    have cm : ∀ (w : World),(Op.Complex.cmp .eql .f64 p1 q1).run P w = .ok (fcmp .eql a1 b1) w∧(Op.Complex.cmp .eql .f64 p2 q2).run P w = .ok (fcmp .eql a2 b2) w:=fun w=>by
      constructor
      · simp [Op.Complex.cmp,cmp_run (P:=P) (op:=.eql) rfl hp1 hq1,asBool]
      · simp [Op.Complex.cmp,cmp_run (P:=P) (op:=.eql) rfl hp2 hq2,asBool]
    split at h
    · exact ar _ (.inl ⟨rfl,rfl⟩) (by rw [h,fadd,fadd])
    · exact ar _ (.inr ⟨rfl,rfl⟩) (by rw [h,fsub,fsub])
    · subst h
      refine ⟨.bool (fcmp .eql a1 b1 && fcmp .eql a2 b2),w.drawn,?_,rfl⟩
      cases e : fcmp .eql a1 b1 <;> simp [binOp,Op.complexOp,(cm w).1,(cm w).2,e]
    · subst h
      refine ⟨.bool (!(fcmp .eql a1 b1 && fcmp .eql a2 b2)),w.drawn,?_,rfl⟩
      cases e : fcmp .eql a1 b1 <;> simp [binOp,Op.complexOp,(cm w).1,(cm w).2,e]
    · exact h.elim
  · exact h.elim

theorem neg_nan {p : Nat} (h : nanW p) : nanW (Op.negFloat .f64 p):=by
  have h2 : p ^^^ 2 ^ 63 < 2 ^ 64:=Nat.xor_lt_two_pow h.1 (by decide)
  refine ⟨h2,?_⟩
  have h1:=h.2
  have e : (p ^^^ 2 ^ 63) % 2 ^ 63 = p % 2 ^ 63:=by
    rw [Nat.xor_mod_two_pow,Nat.mod_self,Nat.xor_zero]
  revert h1
  unfold Op.negFloat FloatKind.decode FloatKind.format Ieee.Format.read Ieee.Format.signWeight Ieee.Format.binade Ieee.Format.infRung Ieee.double
  simp only [show (11 : Nat) + 52 = 63 from rfl]
  rw [e]
  generalize p % 2 ^ 63 = x
  split
  · intro h;cases h
  · split
    · intro h;cases h
    · split
      · intro h;cases h
      · intro _;rfl
theorem fneg_FO {a : Option Nat} {p : Nat} (h : FO a p) : FO (fneg a) (Op.negFloat .f64 p):=by
  cases a with
  | none=>exact neg_nan h
  | some n=>have h : p = n:=h;subst h;rfl

theorem FE_run (hr : ∀ x,VS w ρ S (r x) (η x)) {o : Oper} {v : AVal} (h : FE P r o.op v) :
    ∃ u n,(execOp η o).run P w = .ok (.value u) { w with drawn:=n }∧VS w ρ S v u:=by
  obtain ⟨dst,op,ty,pos,after,guard⟩:=o
  cases op with
  | binOp op T x y T2 =>
    obtain ⟨u,n,h1,h2⟩:=fbinE_run (P:=P) (T:=T) (x:=x) (y:=y) (hr x) (hr y) h
    exact ⟨u,n,run_then' h1 _,h2⟩
  | unOp op T x =>
    have hx:=hr x
    revert h
    show funE op (r x) v→_
    unfold funE
    split
    · rename_i e;rw [e] at hx
      obtain ⟨p,q,hp⟩:=vs_f hx
      rintro rfl
      exact ⟨_,w.drawn,by simp [execOp,q,Op.unary],⟨_,rfl,fneg_FO hp⟩⟩
    · rename_i e;rw [e] at hx
      obtain ⟨p,p',q,hp,hp'⟩:=vs_z hx
      rintro rfl
      exact ⟨_,w.drawn,by simp [execOp,q,Op.unary],⟨_,_,rfl,fneg_FO hp,fneg_FO hp'⟩⟩
    · exact fun h=>h.elim
  | convert s d x =>
    have hx:=hr x
    revert h
    show fconvE P s d (r x) v→_
    unfold fconvE
    split
    · rename_i k n e;rw [e] at hx
      have q:=vs_sc hx
      rintro ⟨h1,h2,rfl⟩
      cases e1 : P.underlying s with
      | none=>exact absurd e1 h1
      | some ds=>exact ⟨_,w.drawn,by simp [execOp,q,convert,run_underlying' e1,run_underlying' h2,Conv.intToFloat],⟨_,rfl,rfl⟩⟩
    · rename_i a e;rw [e] at hx
      obtain ⟨p,q,hp⟩:=vs_f hx
      rintro ⟨h1,⟨h2,rfl⟩ | ⟨k,p',n,h2,rfl,h3,h4,h5,rfl⟩⟩
      · exact ⟨_,w.drawn,by simp [execOp,q,convert,run_underlying' h1,run_underlying' h2,Conv.floatToFloat],⟨_,rfl,hp⟩⟩
      · have hp : p = p':=hp
        subst hp
        exact ⟨_,w.drawn,by simp [execOp,q,convert,run_underlying' h1,run_underlying' h2,Conv.floatToInt,h3,h4,h5],rfl⟩
    · exact fun h=>h.elim
  | call c =>
    obtain ⟨callee,args,tys⟩:=c
    revert h
    show (match callee with | .builtin b=>fbuiltE b (args.toList.map r) v | _=>False)→_
    split
    · rename_i b
      unfold fbuiltE
      split
      · rename_i a1 a2 e
        obtain ⟨x,y,rfl,e1,e2⟩ : ∃ x y,args = #[x,y]∧r x = fv a1∧r y = fv a2:=by
          obtain ⟨l⟩:=args
          rcases l with _ | ⟨x,_ | ⟨y,_ | ⟨z,l⟩⟩⟩ <;> simp only [List.map_cons,List.map_nil,List.cons.injEq,and_true,reduceCtorEq,and_false] at e
          exact ⟨x,y,rfl,e.1,e.2⟩
        have hx:=hr x;rw [e1] at hx
        have hy:=hr y;rw [e2] at hy
        obtain ⟨p,q,hp⟩:=vs_f hx
        obtain ⟨p',q',hp'⟩:=vs_f hy
        rintro rfl
        have hc : ∀ tys ty,(Builtin.complex_ tys ty #[.float .f64 p,.float .f64 p']).run P w = .ok (.complex .f64 p p') w:=fun _ _=>rfl
        exact ⟨_,w.drawn,by simp [execOp,resolve,invoke,builtin,q,q',hc],⟨_,_,rfl,hp,hp'⟩⟩
      · rename_i a1 a2 e
        obtain ⟨x,rfl,e1⟩ : ∃ x,args = #[x]∧r x = zv a1 a2:=by
          obtain ⟨l⟩:=args
          rcases l with _ | ⟨x,_ | ⟨y,l⟩⟩ <;> simp only [List.map_cons,List.map_nil,List.cons.injEq,and_true,reduceCtorEq,and_false] at e
          exact ⟨x,rfl,e⟩
        have hx:=hr x;rw [e1] at hx
        obtain ⟨p,p',q,hp,hp'⟩:=vs_z hx
        rintro rfl
        have hc : ∀ tys ty,(Builtin.real_ tys ty #[.complex .f64 p p']).run P w = .ok (.float .f64 p) w:=fun _ _=>rfl
        exact ⟨_,w.drawn,by simp [execOp,resolve,invoke,builtin,q,hc],⟨_,rfl,hp⟩⟩
      · rename_i a1 a2 e
        obtain ⟨x,rfl,e1⟩ : ∃ x,args = #[x]∧r x = zv a1 a2:=by
          obtain ⟨l⟩:=args
          rcases l with _ | ⟨x,_ | ⟨y,l⟩⟩ <;> simp only [List.map_cons,List.map_nil,List.cons.injEq,and_true,reduceCtorEq,and_false] at e
          exact ⟨x,rfl,e⟩
        have hx:=hr x;rw [e1] at hx
        obtain ⟨p,p',q,hp,hp'⟩:=vs_z hx
        rintro rfl
        have hc : ∀ tys ty,(Builtin.imag_ tys ty #[.complex .f64 p p']).run P w = .ok (.float .f64 p') w:=fun _ _=>rfl
        exact ⟨_,w.drawn,by simp [execOp,resolve,invoke,builtin,q,hc],⟨_,rfl,hp'⟩⟩
      · exact fun h=>h.elim
    · exact fun h=>h.elim
  | _=>exact h.elim

theorem PE_run (hr : ∀ x,VS w ρ S (r x) (η x)) {o : Oper} {v : AVal} (h : PE P r o.op v) :
    ∃ u n,(execOp η o).run P w = .ok (.value u) { w with drawn:=n }∧VS w ρ S v u:=by
  rcases h with h | h
  · obtain ⟨u,h1,h2⟩:=PE0_run (P:=P) hr h
    exact ⟨u,w.drawn,h1,h2⟩
  · exact FE_run hr h

/-! ### Loads -/
def objCell (o : AObj) (i : Nat) : Option Cell :=
  match o with
  | .cells _ cs=>cs[i]?
  | .ints _ k L=>(L[i]?).map fun x=>.sc (.int k x)
  | .acc ..=>none
  | .fix _=>none
  | .row _ cs=>cs[i]?

def loadE (P : Program) (S : Store) (t : TypeId) (a v : AVal) : Prop :=
  match a with
  | .c (.ptr m off)=>∃ o,S m = some o∧((aggT P t = some true∧P.cellsOf t ≠ 0∧∃ ty cs,o = .cells ty cs∧off + P.cellsOf t ≤ cs.length∧v = .agg ((cs.drop off).take (P.cellsOf t))) ∨
      (aggT P t = some false∧∃ x,objCell o off = some x∧v = .c x))
  | .c (.pim cs)=>(aggT P t = some true∧P.cellsOf t ≠ 0∧P.cellsOf t ≤ cs.length∧v = .agg ((cs.take (P.cellsOf t)).map Leaf.cell)) ∨ (aggT P t = some false∧∃ x,cs[0]? = some x∧v = .c x.cell)
  | .accp m off=>∃ ty sz L i j c,S m = some (.acc ty sz L)∧off = i * sz + j∧L[i]? = some c ∧
      ((aggT P t = some true∧P.cellsOf t ≠ 0∧j + P.cellsOf t ≤ c.length∧v = .agg ((c.drop j).take (P.cellsOf t))) ∨ (aggT P t = some false∧∃ x,c[j]? = some x∧v = .c x))
  | _=>False

theorem LeafS.cellS {x : Leaf} {u : Value} (h : LeafS w (Fr w ρ S) x u) : CellS w ρ S x.cell u:=by
  cases x with
  | sc c=>cases h;rfl
  | ints k L=>cases h with | ints h=>exact h
  | intc k L n=>cases h with | intc h=>exact h
  | pim cs=>exact h.pimS
  | seq sz L=>exact h.seqS
  | seqc sz L n=>exact h.seqcS
  | fx x=>cases h with | fx h=>exact h
theorem LeafS.one {x : Leaf} {u : Value} (h : LeafS w (Fr w ρ S) x u) : u.oneCell' = true:=by
  cases h with
  | sc h=>exact h
  | ints h=>obtain ⟨A,cap,rfl,_⟩:=h;rfl
  | intc h=>obtain ⟨A,cap,rfl,_⟩:=h;rfl
  | pim us hF h1 h2=>rfl
  | seq=>rfl
  | seqc=>rfl
  | fx h=>exact FXS.one h

theorem cell_of_heap {b : Nat} {vs : Array Value} {ty : TypeId} {f : Nat × Nat} (h : w.heap[b]? = some (.cells vs ty f)) (o : Nat) : w.cell? ⟨b,o,none⟩ = vs[o]?:=by
  simp [World.cell?,h]

theorem run_loadCells_at (b off : Nat) (us : List Value) (h : ∀ j u,us[j]? = some u→w.cell? ⟨b,off + j,none⟩ = some u) : (loadCells ⟨b,off,none⟩ us.length).run P w = .ok us.toArray w :=
  run_loadCells_list w _ us (fun j v hj=>by rw [add_pl];exact h j v hj)

theorem list_of_cells {n : Nat} {Q : Nat→Value→Prop} (h : ∀ j,j < n→∃ u,Q j u) : ∃ us : List Value,us.length = n∧∀ j u,us[j]? = some u→Q j u:=by
  induction n with
  | zero=>exact ⟨[],rfl,fun j u h=>by simp at h⟩
  | succ n ih =>
    obtain ⟨us,h1,h2⟩:=ih (fun j hj=>h j (by omega))
    obtain ⟨u,hu⟩:=h n (by omega)
    refine ⟨us ++ [u],by simp [h1],fun j v hj=>?_⟩
    rw [List.getElem?_append] at hj
    split at hj
    · exact h2 j v hj
    · have : j = n:=by
        rcases Nat.lt_or_ge j (n + 1) with q | q
        · omega
        · rw [List.getElem?_eq_none (by simp;omega)] at hj;cases hj
      subst this
      simp [h1] at hj
      subst hj;exact hu

theorem loadE_run (he : EnvS w ρ S) {t : TypeId} {a v : AVal} {u : Value} (ha : VS w ρ S a u) (h : loadE P S t a v) :
    ∃ x,(Instr.loadAt t u).run P w = .ok x w∧VS w ρ S v x:=by
  unfold loadE at h
  split at h
  · rename_i m off
    obtain ⟨-,rfl⟩:=ha
    obtain ⟨o,hm,⟨h1,h2,ty,cs,rfl,h3,rfl⟩ | ⟨h1,x,h2,rfl⟩⟩:=h
    · obtain ⟨vs,q1,-,q2⟩:=he.obj m _ hm
      obtain ⟨us,l1,l2⟩:=list_of_cells (n:=P.cellsOf t) (Q:=fun j u=>vs[off + j]? = some u∧∀ x,cs[off + j]? = some x→u.oneCell' = true∧CellS w ρ S x u) (fun j hj=>by
        obtain ⟨u,p1,p2,p3⟩:=q2 (off + j) _ (List.getElem?_eq_getElem (by omega))
        exact ⟨u,p1,fun x hx=>by rw [List.getElem?_eq_getElem (by omega)] at hx;obtain rfl:=Option.some.inj hx;exact ⟨p2,p3⟩⟩)
      have hl:=run_loadCells_at (P:=P) (w:=w) (ρ m) off us (fun j u hu=>by rw [cell_of_heap q1];exact (l2 j u hu).1)
      rw [l1] at hl
      refine ⟨.agg us.toArray,by simp [Instr.loadAt,Instr.sureAddr,loadVar,run_isAgg' h1,run_sizeOf' h2,hl],us.toArray,rfl,by simp;omega,fun i x hi=>?_⟩
      have hlt : i < P.cellsOf t:=by
        rcases Nat.lt_or_ge i (P.cellsOf t) with q | q
        · exact q
        · rw [List.getElem?_eq_none (by simp;omega)] at hi;cases hi
      rw [List.getElem?_take_of_lt hlt,List.getElem?_drop] at hi
      obtain ⟨-,p⟩:=l2 i _ (List.getElem?_eq_getElem (by omega))
      exact ⟨us[i],by simp,(p x hi).1,(p x hi).2⟩
    · have hc : ∃ u,w.cell? ⟨ρ m,off,none⟩ = some u∧CellS w ρ S x u:=by
        have ho:=he.obj m o hm
        cases o with
        | cells ty cs =>
          obtain ⟨vs,q1,-,q2⟩:=ho
          obtain ⟨u,p1,-,p3⟩:=q2 off x h2
          exact ⟨u,by rw [cell_of_heap q1];exact p1,p3⟩
        | ints ty k L =>
          obtain ⟨vs,q1,q2⟩:=ho
          simp only [objCell,Option.map_eq_some_iff] at h2
          obtain ⟨y,p1,rfl⟩:=h2
          exact ⟨_,by rw [cell_of_heap q1];exact q2 off y p1,rfl⟩
        | acc ty k L=>cases h2
        | fix x=>cases h2
        | row ty cs =>
          obtain ⟨vs,q1,q2⟩:=ho
          obtain ⟨u,p1,-,p3⟩:=q2 off x h2
          exact ⟨u,by rw [cell_of_heap q1];exact p1,p3⟩
      obtain ⟨u,p1,p2⟩:=hc
      exact ⟨u,by simp [Instr.loadAt,Instr.sureAddr,loadVar,run_isAgg' h1,p1],p2⟩
  · rename_i cs
    obtain ⟨b,off,rfl,hf,hc⟩:=ha
    rcases h with ⟨h1,h2,h3,rfl⟩ | ⟨h1,x,h2,rfl⟩
    · obtain ⟨us,l1,l2⟩:=list_of_cells (n:=P.cellsOf t) (Q:=fun j u=>w.cell? ⟨b,off + j,none⟩ = some u∧∀ x,cs[j]? = some x→LeafS w (Fr w ρ S) x u) (fun j hj=>by
        obtain ⟨u,p1,p2⟩:=hc j _ (List.getElem?_eq_getElem (by omega))
        exact ⟨u,p1,fun x hx=>by rw [List.getElem?_eq_getElem (by omega)] at hx;obtain rfl:=Option.some.inj hx;exact p2⟩)
      have hl:=run_loadCells_at (P:=P) (w:=w) b off us (fun j u hu=>(l2 j u hu).1)
      rw [l1] at hl
      refine ⟨.agg us.toArray,by simp [Instr.loadAt,Instr.sureAddr,loadVar,run_isAgg' h1,run_sizeOf' h2,hl],us.toArray,rfl,by simp;omega,fun i x hi=>?_⟩
      have hlt : i < P.cellsOf t:=by
        rcases Nat.lt_or_ge i (P.cellsOf t) with q | q
        · exact q
        · rw [List.getElem?_eq_none (by simp;omega)] at hi;cases hi
      rw [List.getElem?_map,List.getElem?_take_of_lt hlt] at hi
      obtain ⟨-,p⟩:=l2 i _ (List.getElem?_eq_getElem (by omega))
      cases e : cs[i]? with
      | none=>rw [e] at hi;cases hi
      | some y =>
        rw [e] at hi
        simp only [Option.map_some,Option.some.injEq] at hi
        subst hi
        exact ⟨us[i],by simp,(p y e).one,(p y e).cellS⟩
    · obtain ⟨u,p1,p2⟩:=hc 0 x h2
      rw [Nat.add_zero] at p1
      exact ⟨u,by simp [Instr.loadAt,Instr.sureAddr,loadVar,run_isAgg' h1,p1],p2.cellS⟩
  · rename_i m off
    obtain ⟨ty,sz,L,i,j,c,hm,rfl,hL,h⟩:=h
    obtain ⟨ty',sz',L',hm',hne,rfl⟩:=ha
    rw [hm] at hm'
    simp only [Option.some.injEq,AObj.acc.injEq] at hm'
    obtain ⟨rfl,rfl,rfl⟩:=hm'
    rcases he.obj m _ hm with q | ⟨vs,q1,-,q2⟩
    · exact absurd q hne
    rcases h with ⟨h1,h2,h3,rfl⟩ | ⟨h1,x,h2,rfl⟩
    · obtain ⟨us,l1,l2⟩:=list_of_cells (n:=P.cellsOf t) (Q:=fun p u=>vs[i * sz + j + p]? = some u∧∀ x,c[j + p]? = some x→u.oneCell' = true∧CellS w ρ S x u) (fun p hp=>by
        obtain ⟨u,p1,p2,p3⟩:=q2 i c (j + p) _ hL (List.getElem?_eq_getElem (by omega))
        exact ⟨u,by rw [Nat.add_assoc];exact p1,fun x hx=>by rw [List.getElem?_eq_getElem (by omega)] at hx;obtain rfl:=Option.some.inj hx;exact ⟨p2,p3⟩⟩)
      have hl:=run_loadCells_at (P:=P) (w:=w) (ρ m) (i * sz + j) us (fun p u hu=>by rw [cell_of_heap q1];exact (l2 p u hu).1)
      rw [l1] at hl
      refine ⟨.agg us.toArray,by simp [Instr.loadAt,Instr.sureAddr,loadVar,run_isAgg' h1,run_sizeOf' h2,hl],us.toArray,rfl,by simp;omega,fun p x hi=>?_⟩
      have hlt : p < P.cellsOf t:=by
        rcases Nat.lt_or_ge p (P.cellsOf t) with q | q
        · exact q
        · rw [List.getElem?_eq_none (by simp;omega)] at hi;cases hi
      rw [List.getElem?_take_of_lt hlt,List.getElem?_drop] at hi
      obtain ⟨-,p⟩:=l2 p _ (List.getElem?_eq_getElem (by omega))
      exact ⟨us[_],by simp,(p x hi).1,(p x hi).2⟩
    · obtain ⟨u,p1,-,p3⟩:=q2 i c j x hL h2
      exact ⟨u,by simp [Instr.loadAt,Instr.sureAddr,loadVar,run_isAgg' h1,cell_of_heap q1,p1],p3⟩
  · exact h.elim
end
end Go.Abs
