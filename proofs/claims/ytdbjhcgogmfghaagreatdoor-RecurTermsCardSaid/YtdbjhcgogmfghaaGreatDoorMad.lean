/-
  An abstract machine for this program, and contracts of its functions: part Mad (no statement by itself).
-/
import Derived.Test.YtdbjhcgogmfghaaGreatDoorMac
set_option linter.unusedVariables false
set_option linter.unusedSimpArgs false
set_option linter.unnecessarySimpa false

/-
  States told by lists; what an operation yields, told by a function.
-/
namespace Go.Abs
open Go

abbrev FL:=List (Nat × AVal)
abbrev SL:=List (Nm × AObj)

def lkO : FL→Nat→Option AVal
  | [],_=>none
  | (s,v) :: r,t=>match Nat.beq s t with
    | true=>some v
    | false=>lkO r t
def lk' (fl : FL) : Fram:=fun t=>(lkO fl t).getD (.c .junk)
def opO (fl : FL) : Operand→Option AVal
  | .tmp t=>lkO fl t
  | .const v=>match v with
    | .float .f64 n=>some (fv (some n))
    | .complex .f64 a b=>some (zv (some a) (some b))
    | v=>some (.c (.sc v))
  | .global g=>match GT g with | some cs=>some (.c (.pim cs)) | none=>none
  | .func f=>some (.fn f [])
def opsO (fl : FL) : List Operand→Option (List AVal)
  | []=>some []
  | x :: xs=>match opO fl x with
    | some v=>match opsO fl xs with
      | some vs=>some (v :: vs)
      | none=>none
    | none=>none

def lkS : SL→Nm→Option AObj
  | [],_=>none
  | (n,o) :: r,m=>if m = n then some o else lkS r m
def ov (sl : SL) (S : Store) : Store:=fun m=>match lkS sl m with | some o=>some o | none=>S m

theorem lkS_hd {m : Nm} {o : AObj} {r : SL} : lkS ((m,o) :: r) m = some o:=by simp [lkS]
theorem lkS_tl {n m : Nm} {o o' : AObj} {r : SL} (h : m ≠ n) (h2 : lkS r m = some o) : lkS ((n,o') :: r) m = some o:=by simp [lkS,h,h2]
@[irreducible] def lkI (sl : SL) (m : Nm) : Option AObj:=lkS sl m
theorem lkI_hd {m : Nm} {o : AObj} {r : SL} : lkI ((m,o) :: r) m = some o:=by unfold lkI;exact lkS_hd
theorem lkI_tl {n m : Nm} {o o' : AObj} {r : SL} (h : m ≠ n) (h2 : lkI r m = some o) : lkI ((n,o') :: r) m = some o:=by unfold lkI at *;exact lkS_tl h h2
theorem lk1 {sl : SL} {m : Nm} {o : AObj} (t : lkI sl m = some o:=by exact lkI_hd) : lkI sl m = some o:=t
theorem lk2 {sl : SL} {m : Nm} {o : AObj} (t : lkI sl m = some o:=by first | exact lkI_hd | exact lkI_tl (by first | (simp;done) | (simp;first | assumption | exact Ne.symm (by assumption))) lk1) : lkI sl m = some o:=t
theorem lk3 {sl : SL} {m : Nm} {o : AObj} (t : lkI sl m = some o:=by first | exact lkI_hd | exact lkI_tl (by first | (simp;done) | (simp;first | assumption | exact Ne.symm (by assumption))) lk2) : lkI sl m = some o:=t
theorem lk4 {sl : SL} {m : Nm} {o : AObj} (t : lkI sl m = some o:=by first | exact lkI_hd | exact lkI_tl (by first | (simp;done) | (simp;first | assumption | exact Ne.symm (by assumption))) lk3) : lkI sl m = some o:=t
theorem lk5 {sl : SL} {m : Nm} {o : AObj} (t : lkI sl m = some o:=by first | exact lkI_hd | exact lkI_tl (by first | (simp;done) | (simp;first | assumption | exact Ne.symm (by assumption))) lk4) : lkI sl m = some o:=t
theorem lk6 {sl : SL} {m : Nm} {o : AObj} (t : lkI sl m = some o:=by first | exact lkI_hd | exact lkI_tl (by first | (simp;done) | (simp;first | assumption | exact Ne.symm (by assumption))) lk5) : lkI sl m = some o:=t
theorem lk7 {sl : SL} {m : Nm} {o : AObj} (t : lkI sl m = some o:=by first | exact lkI_hd | exact lkI_tl (by first | (simp;done) | (simp;first | assumption | exact Ne.symm (by assumption))) lk6) : lkI sl m = some o:=t
theorem lk8 {sl : SL} {m : Nm} {o : AObj} (t : lkI sl m = some o:=by first | exact lkI_hd | exact lkI_tl (by first | (simp;done) | (simp;first | assumption | exact Ne.symm (by assumption))) lk7) : lkI sl m = some o:=t
theorem lk9 {sl : SL} {m : Nm} {o : AObj} (t : lkI sl m = some o:=by first | exact lkI_hd | exact lkI_tl (by first | (simp;done) | (simp;first | assumption | exact Ne.symm (by assumption))) lk8) : lkI sl m = some o:=t
theorem lks {sl : SL} {m : Nm} {o : AObj} (t : lkI sl m = some o:=by first | exact lkI_hd | exact lkI_tl (by first | (simp;done) | (simp;first | assumption | exact Ne.symm (by assumption))) lk9) : lkS sl m = some o:=by unfold lkI at t;exact t
theorem ov_of {sl : SL} {S : Store} {m : Nm} {o : AObj} (h : lkS sl m = some o) : ov sl S m = some o:=by simp [ov,h]
theorem upd_ov (sl : SL) (S : Store) (m : Nm) (o : AObj) : upd (ov sl S) m o = ov ((m,o) :: sl) S:=by
  funext n;simp only [upd,ov,lkS];split <;> rfl
theorem putF_lk (fl : FL) (d : Nat) (v : AVal) : putF (lk' fl) (some d) v = lk' ((d,v) :: fl):=by
  funext t
  simp only [putF,lk',lkO]
  by_cases h : t = d
  · subst h;simp [Nat.beq_refl]
  · rw [if_neg h]
    have : Nat.beq d t = false:=by
      cases e : Nat.beq d t with
      | false=>rfl
      | true=>exact absurd (Nat.eq_of_beq_eq_true e).symm h
    simp [this]
theorem lkO_look {fl : FL} {t : Nat} {v : AVal} (h : lkO fl t = some v) : lk' fl t = v:=by simp [lk',h]
theorem opO_look {fl : FL} {x : Operand} {v : AVal} (h : opO fl x = some v) : look (lk' fl) x = v:=by
  cases x with
  | tmp t=>exact lkO_look h
  | const c =>
    simp only [opO] at h
    simp only [look,cellC]
    split at h
    · exact Option.some.inj h
    · exact Option.some.inj h
    · rename_i n1 n2
      split
      · rename_i e;exact absurd rfl (n1 _)
      · rename_i e;exact absurd rfl (n2 _ _)
      · exact Option.some.inj h
  | global g =>
    simp only [opO] at h
    split at h
    · rename_i e;simp only [look,e];exact Option.some.inj h
    · cases h
  | func f=>simpa [opO,look] using h
theorem opsO_look {fl : FL} : ∀ {xs : List Operand} {vs : List AVal},opsO fl xs = some vs→xs.map (look (lk' fl)) = vs
  | [],vs,h=>by simp only [opsO,Option.some.injEq] at h;simp [← h]
  | x :: xs,vs,h=>by
    simp only [opsO] at h
    split at h
    · rename_i v hv
      split at h
      · rename_i vs' hvs
        simp only [Option.some.injEq] at h
        subst h
        simp [opO_look hv,opsO_look hvs]
      · cases h
    · cases h

def resI (ex : Bool) (k : IntKind) (n : Int) (C : Prop) : Option (AVal × Prop) :=
  match ex with
  | false=>some (ivl k (k.wrap n),C)
  | true=>match k with
    | .u64=>some (ivl .u64 n,(0 ≤ n∧n < 18446744073709551616)∧C)
    | .i64=>some (ivl .i64 n,(-9223372036854775808 ≤ n∧n < 9223372036854775808)∧C)
    | .u32=>some (ivl .u32 n,(0 ≤ n∧n < 4294967296)∧C)
    | .i32=>some (ivl .i32 n,(-2147483648 ≤ n∧n < 2147483648)∧C)
    | .u16=>some (ivl .u16 n,(0 ≤ n∧n < 65536)∧C)
    | .i16=>some (ivl .i16 n,(-32768 ≤ n∧n < 32768)∧C)
    | .u8=>some (ivl .u8 n,(0 ≤ n∧n < 256)∧C)
    | .i8=>some (ivl .i8 n,(-128 ≤ n∧n < 128)∧C)

theorem wrap_in {k : IntKind} {n : Int} (h : match k with
    | .u64=>0 ≤ n∧n < 18446744073709551616
    | .i64=>-9223372036854775808 ≤ n∧n < 9223372036854775808
    | .u32=>0 ≤ n∧n < 4294967296
    | .i32=>-2147483648 ≤ n∧n < 2147483648
    | .u16=>0 ≤ n∧n < 65536
    | .i16=>-32768 ≤ n∧n < 32768
    | .u8=>0 ≤ n∧n < 256
    | .i8=>-128 ≤ n∧n < 128) : k.wrap n = n:=by
  cases k <;> simp only [] at h <;> simp [IntKind.wrap,IntKind.bits,IntKind.signed] <;> (try split) <;> omega

theorem resI_spec {ex : Bool} {k : IntKind} {n : Int} {C D : Prop} {v : AVal} (h : resI ex k n C = some (v,D)) (hd : D) : C∧v = ivl k (k.wrap n):=by
  cases ex with
  | false=>simp only [resI,Option.some.injEq,Prod.mk.injEq] at h;obtain ⟨rfl,rfl⟩:=h;exact ⟨hd,rfl⟩
  | true =>
    cases k <;> simp only [resI,Option.some.injEq,Prod.mk.injEq] at h <;> obtain ⟨rfl,rfl⟩:=h <;> exact ⟨hd.2,by rw [wrap_in (by exact hd.1)]⟩

def cmpP (op : BinOp) (a b : Int) : Option Prop :=
  match op with
  | .eql=>some (a = b)
  | .neq=>some (¬ a = b)
  | .lss=>some (a < b)
  | .leq=>some (a ≤ b)
  | .gtr=>some (b < a)
  | .geq=>some (b ≤ a)
  | _=>none

def kEq : IntKind→IntKind→Bool
  | .u64,.u64 | .i64,.i64 | .u32,.u32 | .i32,.i32 | .u16,.u16 | .i16,.i16 | .u8,.u8 | .i8,.i8=>true
  | _,_=>false
theorem kEq_eq {k k' : IntKind} (h : kEq k k' = true) : k = k':=by cases k <;> cases k' <;> first | rfl | cases h

def arF (ex : Bool) (op : BinOp) (k : IntKind) (a b : Int) : Option (AVal × Prop) :=
  match op with
  | .add=>resI ex k (a + b) True
  | .sub=>resI ex k (a - b) True
  | .mul=>resI ex k (a * b) True
  | .quo=>match ex with
    | true=>resI true k (a / b) (0 ≤ a∧b ≠ 0)
    | false=>resI false k (a.tdiv b) (b ≠ 0)
  | .rem=>match ex with
    | true=>some (ivl k (a % b),0 ≤ a∧b ≠ 0)
    | false=>some (ivl k (a.tmod b),b ≠ 0)
  | _=>none

theorem arF_spec {ex : Bool} {op : BinOp} {k : IntKind} {a b : Int} {v : AVal} {C : Prop} (h : arF ex op k a b = some (v,C)) (hc : C) : isShift op = false∧intE op k a b v:=by
  cases op <;> simp only [arF] at h <;> (first | cases h;done | skip)
  case add=>exact ⟨rfl,(resI_spec h hc).2⟩
  case sub=>exact ⟨rfl,(resI_spec h hc).2⟩
  case mul=>exact ⟨rfl,(resI_spec h hc).2⟩
  case quo =>
    cases ex with
    | false=>obtain ⟨h1,h2⟩:=resI_spec h hc;exact ⟨rfl,h1,h2⟩
    | true =>
      obtain ⟨⟨h1,h3⟩,h2⟩:=resI_spec h hc
      refine ⟨rfl,h3,?_⟩
      rw [Int.tdiv_eq_ediv_of_nonneg h1];exact h2
  case rem =>
    cases ex with
    | false=>simp only [Option.some.injEq,Prod.mk.injEq] at h;obtain ⟨rfl,rfl⟩:=h;exact ⟨rfl,hc,rfl⟩
    | true =>
      simp only [Option.some.injEq,Prod.mk.injEq] at h
      obtain ⟨rfl,rfl⟩:=h
      exact ⟨rfl,hc.2,by rw [Int.tmod_eq_emod_of_nonneg hc.1]⟩

def shF (ex : Bool) (op : BinOp) (k : IntKind) (a b : Int) : Option (AVal × Prop) :=
  match ex,op with
  | false,.shl=>resI false k (a * 2 ^ (min b.toNat k.bits)) (0 ≤ b)
  | false,.shr=>some (ivl k (a.fdiv (2 ^ (min b.toNat k.bits))),0 ≤ b)
  | _,_=>none
theorem shF_spec {ex : Bool} {op : BinOp} {k : IntKind} {a b : Int} {v : AVal} {C : Prop} (h : shF ex op k a b = some (v,C)) (hc : C) : isShift op = true∧shiftE op k a b v:=by
  unfold shF at h
  split at h
  · obtain ⟨h1,h2⟩:=resI_spec h hc;exact ⟨rfl,h1,h2⟩
  · simp only [Option.some.injEq,Prod.mk.injEq] at h;obtain ⟨rfl,rfl⟩:=h;exact ⟨rfl,hc,rfl⟩
  · cases h

def binF (ex : Bool) (op : BinOp) (x y : AVal) : Option (AVal × Prop) :=
  match x,y with
  | .c (.sc (.int k a)),.c (.sc (.int k' b))=>match isShift op with
    | true=>shF ex op k a b
    | false=>match kEq k k' with
      | true=>arF ex op k a b
      | false=>none
  | _,_=>none

theorem binF_spec {P : Program} {T : TypeId} {ex : Bool} {op : BinOp} {x y v : AVal} {C : Prop} (h : binF ex op x y = some (v,C)) (hc : C) : binE P op T x y v:=by
  unfold binF at h
  split at h
  · rename_i k a k' b
    simp only [binE]
    split at h
    · rename_i e;rw [if_pos e];exact (shF_spec h hc).2
    · rename_i e
      split at h
      · rename_i e2
        rw [if_neg (by simp [e])]
        exact ⟨kEq_eq e2,(arF_spec h hc).2⟩
      · cases h
  · cases h

def unF (ex : Bool) (op : UnOp) (x : AVal) : Option (AVal × Prop) :=
  match op,x with
  | .neg,.c (.sc (.int k n))=>resI ex k (0 - n) True
  | .xor,.c (.sc (.int k n))=>some (ivl k (k.wrap (BitVec.ofInt k.bits (if k.signed then -1 else k.max) ^^^ BitVec.ofInt k.bits n).toNat),True)
  | .not,.c (.sc (.bool b))=>some (bvl (!b),True)
  | _,_=>none
theorem unF_spec {ex : Bool} {op : UnOp} {x v : AVal} {C : Prop} (h : unF ex op x = some (v,C)) (hc : C) : unE op x v:=by
  unfold unF at h
  split at h
  · exact (resI_spec h hc).2
  · simp only [Option.some.injEq,Prod.mk.injEq] at h;exact h.1.symm
  · simp only [Option.some.injEq,Prod.mk.injEq] at h;exact h.1.symm
  · cases h

def lenF (x : AVal) : Option AVal :=
  match x with
  | .c (.ints _ L)=>some (ivl .i64 L.length)
  | .c (.intc _ _ n)=>some (ivl .i64 n)
  | .c (.seq _ L)=>some (ivl .i64 L.length)
  | .c (.win _ _ n _)=>some (ivl .i64 n)
  | .c (.sc (.slice none 0 0))=>some (ivl .i64 0)
  | .c (.seqc _ _ n)=>some (ivl .i64 n)
  | .accv _ n=>some (ivl .i64 n)
  | _=>none

def bndL (fl : FL) : Option Operand→Option (Option Int)
  | none=>some none
  | some x=>match opO fl x with
    | some (.c (.sc (.int _ i)))=>some (some i)
    | _=>none
def bndC (lo hi : Option Int) (n c : Nat) : Nat × Nat × Prop :=
  match lo,hi with
  | none,none=>(0,n,n ≤ c)
  | some a,none=>(a.toNat,n,0 ≤ a∧a ≤ n∧n ≤ c)
  | none,some b=>(0,b.toNat,0 ≤ b∧b ≤ c)
  | some a,some b=>(a.toNat,b.toNat,0 ≤ a∧a ≤ b∧b ≤ c)
theorem bnd_spec {fl : FL} {lo hi : Option Operand} {a b : Option Int} {n c : Nat} (h1 : bndL fl lo = some a) (h2 : bndL fl hi = some b) (hc : (bndC a b n c).2.2) :
    bndE (look (lk' fl)) lo hi n c (bndC a b n c).1 (bndC a b n c).2.1:=by
  have one : ∀ {x : Operand} {a : Option Int},bndL fl (some x) = some a→∃ k i,a = some i∧look (lk' fl) x = ivl k i:=by
    intro x a h
    simp only [bndL] at h
    split at h
    · rename_i k i e;exact ⟨k,i,(Option.some.inj h).symm,opO_look e⟩
    · cases h
  cases lo with
  | none =>
    simp only [bndL,Option.some.injEq] at h1
    subst h1
    cases hi with
    | none=>simp only [bndL,Option.some.injEq] at h2;subst h2;exact ⟨rfl,rfl,Nat.zero_le _,hc⟩
    | some y =>
      obtain ⟨k,i,rfl,e⟩:=one h2
      refine ⟨rfl,by simp only [e,bndC];exact ⟨hc.1,trivial⟩,Nat.zero_le _,?_⟩
      have:=hc.2;simp only [bndC];omega
  | some x =>
    obtain ⟨k,i,rfl,e⟩:=one h1
    cases hi with
    | none =>
      simp only [bndL,Option.some.injEq] at h2;subst h2
      refine ⟨by simp only [e,bndC];exact ⟨hc.1,trivial⟩,rfl,?_,hc.2.2⟩
      have:=hc.2.1;simp only [bndC];omega
    | some y =>
      obtain ⟨k',j,rfl,e'⟩:=one h2
      obtain ⟨q1,q2,q3⟩:=hc
      refine ⟨by simp only [e,bndC];exact ⟨q1,trivial⟩,by simp only [e',bndC];exact ⟨by omega,trivial⟩,?_,?_⟩ <;> simp only [bndC] <;> omega

structure TI where
  und : TypeDesc
  cells : Nat
  bytes : Nat
  agg : Bool
  zero : Value
abbrev TT:=List (Nat × TI)
def tyO : TT→Nat→Option TI
  | [],_=>none
  | (s,v) :: r,t=>match Nat.beq s t with
    | true=>some v
    | false=>tyO r t
def undT (T : TT) (t : Nat) : Option TypeDesc:=match tyO T t with | some i=>some i.und | none=>none
def celT (T : TT) (t : Nat) : Nat:=match tyO T t with | some i=>i.cells | none=>0
def bytT (T : TT) (t : Nat) : Option Nat:=match tyO T t with | some i=>some i.bytes | none=>none
def agT (T : TT) (t : Nat) : Option Bool:=match tyO T t with | some i=>some i.agg | none=>none
def zerT (T : TT) (t : Nat) : Option Value:=match tyO T t with | some i=>some i.zero | none=>none
def TIok (P : Program) (t : Nat) (i : TI) : Prop:=P.underlying t = some i.und∧P.cellsOf t = i.cells∧P.bytesOf t = i.bytes∧aggT P t = some i.agg∧zeroOf P t = some i.zero
def TOk (P : Program) : TT→Prop
  | []=>True
  | (t,i) :: r=>TIok P t i∧TOk P r
theorem TOk.at {P : Program} : ∀ {T : TT} {t : Nat} {i : TI},TOk P T→tyO T t = some i→TIok P t i
  | (s,v) :: r,t,i,⟨h1,h2⟩,h=>by
    simp only [tyO] at h
    split at h
    · rename_i e
      have:=Nat.eq_of_beq_eq_true e
      subst this
      obtain rfl:=Option.some.inj h
      exact h1
    · exact TOk.at h2 h
section
variable {P : Program} {T : TT} (hT : TOk P T) {t : Nat}
include hT
theorem TOk.und {d : TypeDesc} (h : undT T t = some d) : P.underlying t = some d:=by
  unfold undT at h;split at h
  · rename_i i hi;rw [← h];exact (hT.at hi).1
  · cases h
theorem TOk.cel {n : Nat} (h : celT T t = n) (hn : n ≠ 0) : P.cellsOf t = n:=by
  unfold celT at h;split at h
  · rename_i i hi;rw [← h];exact (hT.at hi).2.1
  · exact absurd h.symm hn
theorem TOk.byt {n : Nat} (h : bytT T t = some n) : P.bytesOf t = n:=by
  unfold bytT at h;split at h
  · rename_i i hi;rw [← Option.some.inj h];exact (hT.at hi).2.2.1
  · cases h
theorem TOk.ag {b : Bool} (h : agT T t = some b) : aggT P t = some b:=by
  unfold agT at h;split at h
  · rename_i i hi;rw [← h];exact (hT.at hi).2.2.2.1
  · cases h
theorem TOk.zer {v : Value} (h : zerT T t = some v) : zeroOf P t = some v:=by
  unfold zerT at h;split at h
  · rename_i i hi;rw [← h];exact (hT.at hi).2.2.2.2
  · cases h
end

def sliceF (T : TT) (fl : FL) (t : TypeId) (x : Operand) (lo hi mx : Option Operand) : Option (AVal × Prop) :=
  match mx,undT T t,bndL fl lo,bndL fl hi with
  | none,some (.slice e),some a,some b=>match celT T e with
    | 0=>none
    | 1=>match opO fl x with
      | some (.c (.ints k L))=>match bndC a b L.length L.length with | (l,h,C)=>some (.c (.ints k ((L.drop l).take (h - l))),C)
      | some (.c (.intc k L n))=>match bndC a b n L.length with | (l,h,C)=>some (.c (.intc k (L.drop l) (h - l)),C)
      | some (.c (.win m off len cm))=>match bndC a b len cm with | (l,h,C)=>some (.c (.win m (off + l) (h - l) (cm - l)),C)
      | some (.c (.seq sz L))=>match Nat.beq sz 1,bndC a b L.length L.length with | true,(l,h,C)=>some (.c (.seq sz ((L.drop l).take (h - l))),C) | false,_=>none
      | some (.c (.seqc sz L n))=>match Nat.beq sz 1,bndC a b n L.length with | true,(l,h,C)=>some (.c (.seqc sz (L.drop l) (h - l)),C) | false,_=>none
      | some (.c (.sc (.slice none 0 0)))=>match bndC a b 0 0 with | (_,_,C)=>some (nils,C)
      | _=>none
    | n=>match opO fl x with
      | some (.c (.seq sz L))=>match Nat.beq sz n,bndC a b L.length L.length with | true,(l,h,C)=>some (.c (.seq sz ((L.drop l).take (h - l))),C) | false,_=>none
      | some (.c (.seqc sz L q))=>match Nat.beq sz n,bndC a b q L.length with | true,(l,h,C)=>some (.c (.seqc sz (L.drop l) (h - l)),C) | false,_=>none
      | some (.c (.win m off len cm))=>match bndC a b len cm with | (l,h,C)=>some (.c (.win m off h cm),C∧l = 0)
      | some (.c (.sc (.slice none 0 0)))=>match bndC a b 0 0 with | (_,_,C)=>some (nils,C)
      | _=>none
  | _,_,_,_=>none

theorem sliceF_spec {P : Program} {T : TT} (hT : TOk P T) {fl : FL} {t : TypeId} {x : Operand} {lo hi mx : Option Operand} {v : AVal} {C : Prop} (h : sliceF T fl t x lo hi mx = some (v,C)) (hc : C) : sliceE P (look (lk' fl)) t x lo hi mx v:=by
  unfold sliceF at h
  split at h
  · rename_i e a b hu h1 h2
    refine ⟨rfl,e,hT.und hu,?_⟩
    split at h
    · cases h
    · rename_i hce
      have hce:=hT.cel hce (by decide)
      refine ⟨by omega,?_⟩
      split at h
      · rename_i k L hx
        rw [opO_look hx]
        simp only [Option.some.injEq,Prod.mk.injEq] at h
        obtain ⟨rfl,rfl⟩:=h
        exact ⟨hce,_,_,bnd_spec h1 h2 hc,rfl⟩
      · rename_i k L n hx
        rw [opO_look hx]
        simp only [Option.some.injEq,Prod.mk.injEq] at h
        obtain ⟨rfl,rfl⟩:=h
        exact ⟨hce,_,_,bnd_spec h1 h2 hc,rfl⟩
      · rename_i m off len cm hx
        rw [opO_look hx]
        simp only [Option.some.injEq,Prod.mk.injEq] at h
        obtain ⟨rfl,rfl⟩:=h
        exact ⟨_,_,bnd_spec h1 h2 hc,by rw [hce,Nat.mul_one],.inl hce⟩
      · rename_i sz L hx
        rw [opO_look hx]
        split at h
        · rename_i q1 q2
          simp only [Option.some.injEq,Prod.mk.injEq] at h
          obtain ⟨rfl,rfl⟩:=h
          have:=Nat.eq_of_beq_eq_true q1
          refine ⟨by omega,_,_,?_,rfl⟩
          have hb:=bnd_spec (n:=L.length) (c:=L.length) h1 h2 (by rw [q2];exact hc)
          rw [q2] at hb
          exact hb
        · cases h
      · rename_i sz L q hx
        rw [opO_look hx]
        split at h
        · rename_i q1 q2
          simp only [Option.some.injEq,Prod.mk.injEq] at h
          obtain ⟨rfl,rfl⟩:=h
          have:=Nat.eq_of_beq_eq_true q1
          refine ⟨by omega,_,_,?_,rfl⟩
          have hb:=bnd_spec (n:=q) (c:=L.length) h1 h2 (by rw [q2];exact hc)
          rw [q2] at hb
          exact hb
        · cases h
      · rename_i hx
        rw [opO_look hx]
        simp only [Option.some.injEq,Prod.mk.injEq] at h
        obtain ⟨rfl,rfl⟩:=h
        exact ⟨_,_,bnd_spec h1 h2 hc,rfl⟩
      · cases h
    · rename_i n q0 q1
      have q2':=hT.cel (t:=e) rfl q0
      refine ⟨by rw [q2'];exact q0,?_⟩
      split at h
      · rename_i sz L hx
        rw [opO_look hx]
        split at h
        · rename_i q3 q4
          simp only [Option.some.injEq,Prod.mk.injEq] at h
          obtain ⟨rfl,rfl⟩:=h
          have:=Nat.eq_of_beq_eq_true q3
          refine ⟨by omega,_,_,?_,rfl⟩
          have hb:=bnd_spec (n:=L.length) (c:=L.length) h1 h2 (by rw [q4];exact hc)
          rw [q4] at hb
          exact hb
        · cases h
      · rename_i sz L q hx
        rw [opO_look hx]
        split at h
        · rename_i q3 q4
          simp only [Option.some.injEq,Prod.mk.injEq] at h
          obtain ⟨rfl,rfl⟩:=h
          have:=Nat.eq_of_beq_eq_true q3
          refine ⟨by omega,_,_,?_,rfl⟩
          have hb:=bnd_spec (n:=q) (c:=L.length) h1 h2 (by rw [q4];exact hc)
          rw [q4] at hb
          exact hb
        · cases h
      · rename_i m off len cm hx
        rw [opO_look hx]
        simp only [Option.some.injEq,Prod.mk.injEq] at h
        obtain ⟨rfl,rfl⟩:=h
        have hb:=bnd_spec h1 h2 hc.1
        exact ⟨_,_,hb,by rw [hc.2];simp,.inr hc.2⟩
      · rename_i hx
        rw [opO_look hx]
        simp only [Option.some.injEq,Prod.mk.injEq] at h
        obtain ⟨rfl,rfl⟩:=h
        exact ⟨_,_,bnd_spec h1 h2 hc,rfl⟩
      · cases h
  · cases h
end Go.Abs

/-
  Steps of operations on states told by lists.
-/
namespace Go.Abs
open Go

def evP0 (T : TT) (ex : Bool) (fl : FL) (op : Op) : Option (AVal × Prop) :=
  match op with
  | .move x=>match opO fl x with | some v=>some (v,True) | none=>none
  | .assign x=>match opO fl x with | some v=>some (v,True) | none=>none
  | .pick c a b=>match opO fl c with
    | some (.c (.sc (.bool true)))=>match opO fl a with | some v=>some (v,True) | none=>none
    | some (.c (.sc (.bool false)))=>match opO fl b with | some v=>some (v,True) | none=>none
    | _=>none
  | .nilCheck x=>match opO fl x with
    | some (.c (.ptr m off))=>some (.c (.ptr m off),True)
    | some (.c (.pim cs))=>some (.c (.pim cs),True)
    | some (.fn f cs)=>some (.fn f cs,True)
    | _=>none
  | .binOp op t x y _=>match opO fl x,opO fl y with
    | some (.c (.sc (.bool a))),some (.c (.sc (.bool b)))=>match undT T t with
      | some .bool=>match op with
        | .eql=>some (bvl (a == b),True)
        | .neq=>some (bvl (a != b),True)
        | _=>none
      | _=>none
    | some x,some y=>binF ex op x y
    | _,_=>none
  | .unOp op _ x=>match opO fl x with
    | some x=>unF ex op x
    | none=>none
  | .convert s d x=>match opO fl x,undT T s,undT T d with
    | some (.c (.sc (.int _ n))),some _,some (.int k)=>resI ex k n True
    | _,_,_=>none
  | .fieldAddr s x f=>match undT T s with
    | some (.struct fs)=>match fs[f]? with
      | some fd=>match celT T fd.type with
        | 0=>none
        | _=>match opO fl x with
          | some (.c (.ptr m off))=>some (.c (.ptr m (off + fd.offset)),True)
          | some (.c (.pim cs))=>some (.c (.pim (cs.drop fd.offset)),True)
          | _=>none
      | none=>none
    | _=>none
  | .field s x f=>match undT T s with
    | some (.struct fs)=>match fs[f]? with
      | some fd=>match opO fl x with
        | some (.agg cs)=>match agT T fd.type with
          | some true=>match celT T fd.type with
            | 0=>none
            | n=>some (.agg ((cs.drop fd.offset).take n),True)
          | some false=>match cs[fd.offset]? with
            | some y=>some (.c y,True)
            | none=>none
          | none=>none
        | _=>none
      | none=>none
    | _=>none
  | .indexAddr t x i=>match undT T t with
    | some (.slice e)=>match celT T e with
      | 0=>none
      | 1=>match opO fl x,opO fl i with
        | some (.c (.ints k L)),some (.c (.sc (.int _ j)))=>some (.c (.pim [.sc (.int k (L.getD j.toNat 0))]),0 ≤ j∧j < L.length)
        | some (.c (.intc k L n)),some (.c (.sc (.int _ j)))=>some (.c (.pim [.sc (.int k (L.getD j.toNat 0))]),0 ≤ j∧j < n)
        | some (.c (.win m off len _)),some (.c (.sc (.int _ j)))=>some (.c (.ptr m (off + j.toNat)),0 ≤ j∧j < len)
        | some (.c (.seq sz L)),some (.c (.sc (.int _ j)))=>match Nat.beq sz 1 with
          | true=>some (.c (.pim (L.getD j.toNat [])),0 ≤ j∧j < L.length)
          | false=>none
        | some (.c (.seqc sz L q)),some (.c (.sc (.int _ j)))=>match Nat.beq sz 1 with
          | true=>some (.c (.pim (L.getD j.toNat [])),0 ≤ j∧j < q)
          | false=>none
        | some (.accv m q),some (.c (.sc (.int _ j)))=>some (.accp m j.toNat,0 ≤ j∧j < q)
        | _,_=>none
      | n=>match opO fl x,opO fl i with
        | some (.c (.seq sz L)),some (.c (.sc (.int _ j)))=>match Nat.beq sz n with
          | true=>some (.c (.pim (L.getD j.toNat [])),0 ≤ j∧j < L.length)
          | false=>none
        | some (.c (.seqc sz L q)),some (.c (.sc (.int _ j)))=>match Nat.beq sz n with
          | true=>some (.c (.pim (L.getD j.toNat [])),0 ≤ j∧j < q)
          | false=>none
        | some (.accv m q),some (.c (.sc (.int _ j)))=>some (.accp m (j.toNat * n),0 ≤ j∧j < q)
        | some (.c (.win m off len _)),some (.c (.sc (.int _ j)))=>some (.c (.ptr m (off + j.toNat * n)),0 ≤ j∧j < len)
        | _,_=>none
    | some (.array n e)=>match celT T e with
      | 1=>match opO fl x,opO fl i with
        | some (.c (.pim cs)),some (.c (.sc (.int _ j)))=>some (.c (.pim (cs.drop j.toNat)),0 ≤ j∧j < n)
        | _,_=>none
      | _=>none
    | _=>none
  | .slice t x lo hi mx=>sliceF T fl t x lo hi mx
  | .extract x i=>match opO fl x with
    | some (.tup xs)=>match xs[i]? with
      | some (.c y)=>some (.c y,True)
      | some (.agg y)=>some (.agg y,True)
      | some (.fn f y)=>some (.fn f y,True)
      | some (.accv m q)=>some (.accv m q,True)
      | _=>none
    | _=>none
  | .call c=>match c.callee with
    | .builtin b=>match b,c.args.toList,c.argTypes.toList with
      | .len,[x],[t]=>match undT T t,opO fl x with
        | some (.slice _),some v=>match lenF v with | some r=>some (r,True) | none=>none
        | _,_=>none
      | .min,[x,y],_=>match opO fl x,opO fl y with
        | some (.c (.sc (.int k a))),some (.c (.sc (.int _ b)))=>some (ivl k (if b < a then b else a),True)
        | _,_=>none
      | .max,[x,y],_=>match opO fl x,opO fl y with
        | some (.c (.sc (.int k a))),some (.c (.sc (.int _ b)))=>some (ivl k (if a < b then b else a),True)
        | _,_=>none
      | .min,[x,y,z],_=>match opO fl x,opO fl y,opO fl z with
        | some (.c (.sc (.int k a))),some (.c (.sc (.int _ b))),some (.c (.sc (.int _ c)))=>some (ivl k (if c < (if b < a then b else a) then c else (if b < a then b else a)),True)
        | _,_,_=>none
      | _,_,_=>none
    | _=>none
  | _=>none

def fbinF (op : BinOp) : FX→FX→Option AVal
  | .f a,.f b=>match op with
    | .add=>some (fv (fadd a b))
    | .sub=>some (fv (fsub a b))
    | .mul=>some (fv (fmul a b))
    | .quo=>some (fv (fquo a b))
    | .eql=>some (bvl (fcmp .eql a b))
    | .neq=>some (bvl (fcmp .neq a b))
    | .lss=>some (bvl (fcmp .lss a b))
    | .leq=>some (bvl (fcmp .leq a b))
    | .gtr=>some (bvl (fcmp .gtr a b))
    | .geq=>some (bvl (fcmp .geq a b))
    | _=>none
  | .z a b,.z c d=>match op with
    | .add=>some (zv (fadd a c) (fadd b d))
    | .sub=>some (zv (fsub a c) (fsub b d))
    | .eql=>some (bvl (fcmp .eql a c && fcmp .eql b d))
    | .neq=>some (bvl (!(fcmp .eql a c && fcmp .eql b d)))
    | _=>none
  | _,_=>none
theorem fbinF_spec {op : BinOp} {x y : FX} {v : AVal} (h : fbinF op x y = some v) : fbinE op (.c (.fx x)) (.c (.fx y)) v:=by
  cases x <;> cases y <;> cases op <;> simp only [fbinF] at h <;> first | (cases h;done) | exact (Option.some.inj h).symm | exact ⟨rfl,(Option.some.inj h).symm⟩
def evF (T : TT) (fl : FL) (op : Op) : Option AVal :=
  match op with
  | .binOp op _ x y _=>match opO fl x,opO fl y with
    | some (.c (.fx a)),some (.c (.fx b))=>fbinF op a b
    | _,_=>none
  | .unOp .neg _ x=>match opO fl x with
    | some (.c (.fx (.f a)))=>some (fv (fneg a))
    | some (.c (.fx (.z a b)))=>some (zv (fneg a) (fneg b))
    | _=>none
  | .convert s d x=>match opO fl x,undT T s,undT T d with
    | some (.c (.sc (.int _ n))),some _,some (.float .f64)=>some (fv (some (FloatKind.f64.nearest n)))
    | some (.c (.fx (.f a))),some (.float .f64),some (.float .f64)=>some (fv a)
    | _,_,_=>none
  | .call c=>match c.callee with
    | .builtin b=>match b,c.args.toList with
      | .complex,[x,y]=>match opO fl x,opO fl y with
        | some (.c (.fx (.f a))),some (.c (.fx (.f b)))=>some (zv a b)
        | _,_=>none
      | .real,[x]=>match opO fl x with
        | some (.c (.fx (.z a _)))=>some (fv a)
        | _=>none
      | .imag,[x]=>match opO fl x with
        | some (.c (.fx (.z _ b)))=>some (fv b)
        | _=>none
      | _,_=>none
    | _=>none
  | _=>none
def evP (T : TT) (ex : Bool) (fl : FL) (op : Op) : Option (AVal × Prop) :=
  match evF T fl op with
  | some v=>some (v,True)
  | none=>evP0 T ex fl op

theorem len_spec {P : Program} {t e : TypeId} {x v : AVal} (hu : P.underlying t = some (.slice e)) (h : lenF x = some v) : lenE P t x v:=by
  refine ⟨⟨e,hu⟩,?_⟩
  unfold lenF at h
  split at h <;> first | exact (Option.some.inj h).symm | cases h

section
variable {P : Program} {T : TT} {mu : FuncId→Bool} {N : Nat} {ops : Array Oper} {fl : FL} {S : Store} {K : St→Prop}

theorem evP0_sound (hT : TOk P T) {ex : Bool} {op : Op} {v : AVal} {C : Prop} (h : evP0 T ex fl op = some (v,C)) (hc : C) : PE0 P (look (lk' fl)) op v:=by
  unfold evP0 at h
  split at h
  · split at h
    · rename_i hx
      simp only [Option.some.injEq,Prod.mk.injEq] at h
      simp only [PE0,opO_look hx,h.1]
    · cases h
  · split at h
    · rename_i hx
      simp only [Option.some.injEq,Prod.mk.injEq] at h
      simp only [PE0,opO_look hx,h.1]
    · cases h
  · split at h
    · rename_i hc
      split at h
      · rename_i hx
        simp only [Option.some.injEq,Prod.mk.injEq] at h
        simp only [PE0,opO_look hc,if_true,opO_look hx,h.1]
      · cases h
    · rename_i hc
      split at h
      · rename_i hx
        simp only [Option.some.injEq,Prod.mk.injEq] at h
        simp [PE0,opO_look hc,opO_look hx,h.1]
      · cases h
    · cases h
  · split at h
    all_goals first
      | (rename_i hx
         simp only [Option.some.injEq,Prod.mk.injEq] at h
         obtain ⟨rfl,-⟩:=h
         simp only [PE0,opO_look hx])
      | cases h
  · split at h
    · rename_i hx hy
      simp only [PE0,opO_look hx,opO_look hy]
      split at h
      · rename_i hu
        split at h
        · simp only [Option.some.injEq,Prod.mk.injEq] at h
          exact ⟨hT.und hu,h.1.symm⟩
        · simp only [Option.some.injEq,Prod.mk.injEq] at h
          exact ⟨hT.und hu,h.1.symm⟩
        · cases h
      · cases h
    · rename_i _ hx hy
      simp only [PE0,opO_look hx,opO_look hy]
      exact binF_spec h hc
    · cases h
  · split at h
    · rename_i hx
      simp only [PE0,opO_look hx]
      exact unF_spec h hc
    · cases h
  · split at h
    · rename_i hx hs hd
      simp only [PE0,opO_look hx,convE]
      exact ⟨by rw [hT.und hs];simp,_,hT.und hd,(resI_spec h hc).2⟩
    · cases h
  · split at h
    · rename_i fs hu
      split at h
      · rename_i fd hf
        split at h
        · cases h
        · rename_i n hn
          split at h
          all_goals first
            | (rename_i hx
               simp only [Option.some.injEq,Prod.mk.injEq] at h
               exact ⟨fs,fd,hT.und hu,hf,by rw [hT.cel (t:=fd.type) rfl hn];exact hn,by simp only [opO_look hx];exact h.1.symm⟩)
            | (rename_i hx
               simp only [Option.some.injEq,Prod.mk.injEq] at h
               exact ⟨fs,fd,hT.und hu,hf,by rw [hT.cel (t:=fd.type) rfl hn];exact hn,by simp only [opO_look hx];exact h.1.symm⟩)
            | cases h
      · cases h
    · cases h
  · split at h
    · rename_i fs hu
      split at h
      · rename_i fd hf
        split at h
        · rename_i cs hx
          refine ⟨fs,fd,hT.und hu,hf,?_⟩
          simp only [opO_look hx]
          split at h
          · rename_i ha
            split at h
            · cases h
            · rename_i hn
              simp only [Option.some.injEq,Prod.mk.injEq] at h
              have hn':=hT.cel (t:=fd.type) rfl hn
              exact .inl ⟨hT.ag ha,by rw [hn'];exact hn,by rw [hn'];exact h.1.symm⟩
          · rename_i ha
            split at h
            · rename_i y hy
              simp only [Option.some.injEq,Prod.mk.injEq] at h
              exact .inr ⟨hT.ag ha,y,hy,h.1.symm⟩
            · cases h
          · cases h
        · cases h
      · cases h
    · cases h
  · split at h
    · rename_i e hu
      split at h
      · cases h
      · rename_i hce
        have hce:=hT.cel hce (by decide)
        split at h
        · rename_i hx hy
          simp only [Option.some.injEq,Prod.mk.injEq] at h
          obtain ⟨rfl,rfl⟩:=h
          exact .inl ⟨e,hT.und hu,by omega,by simp only [opO_look hx,opO_look hy];exact ⟨hce,hc.1,hc.2,trivial⟩⟩
        · rename_i hx hy
          simp only [Option.some.injEq,Prod.mk.injEq] at h
          obtain ⟨rfl,rfl⟩:=h
          exact .inl ⟨e,hT.und hu,by omega,by simp only [opO_look hx,opO_look hy];exact ⟨hce,hc.1,hc.2,trivial⟩⟩
        · rename_i hx hy
          simp only [Option.some.injEq,Prod.mk.injEq] at h
          obtain ⟨rfl,rfl⟩:=h
          exact .inl ⟨e,hT.und hu,by omega,by simp only [opO_look hx,opO_look hy];exact ⟨hc.1,hc.2,by rw [hce,Nat.mul_one]⟩⟩
        · rename_i hx hy
          split at h
          · rename_i hq
            simp only [Option.some.injEq,Prod.mk.injEq] at h
            obtain ⟨rfl,rfl⟩:=h
            have:=Nat.eq_of_beq_eq_true hq
            exact .inl ⟨e,hT.und hu,by omega,by simp only [opO_look hx,opO_look hy];exact ⟨by omega,hc.1,hc.2,trivial⟩⟩
          · cases h
        · rename_i hx hy
          split at h
          · rename_i hq
            simp only [Option.some.injEq,Prod.mk.injEq] at h
            obtain ⟨rfl,rfl⟩:=h
            have:=Nat.eq_of_beq_eq_true hq
            exact .inl ⟨e,hT.und hu,by omega,by simp only [opO_look hx,opO_look hy];exact ⟨by omega,hc.1,hc.2,trivial⟩⟩
          · cases h
        · rename_i hx hy
          simp only [Option.some.injEq,Prod.mk.injEq] at h
          obtain ⟨rfl,rfl⟩:=h
          exact .inl ⟨e,hT.und hu,by omega,by simp only [opO_look hx,opO_look hy];exact ⟨hc.1,hc.2,by rw [hce,Nat.mul_one]⟩⟩
        · cases h
      · rename_i n hn0 hn1
        have hn2:=hT.cel (t:=e) rfl hn0
        split at h
        · rename_i hx hy
          split at h
          · rename_i hq
            simp only [Option.some.injEq,Prod.mk.injEq] at h
            obtain ⟨rfl,rfl⟩:=h
            have:=Nat.eq_of_beq_eq_true hq
            exact .inl ⟨e,hT.und hu,by rw [hn2];exact hn0,by simp only [opO_look hx,opO_look hy];exact ⟨by omega,hc.1,hc.2,trivial⟩⟩
          · cases h
        · rename_i hx hy
          split at h
          · rename_i hq
            simp only [Option.some.injEq,Prod.mk.injEq] at h
            obtain ⟨rfl,rfl⟩:=h
            have:=Nat.eq_of_beq_eq_true hq
            exact .inl ⟨e,hT.und hu,by rw [hn2];exact hn0,by simp only [opO_look hx,opO_look hy];exact ⟨by omega,hc.1,hc.2,trivial⟩⟩
          · cases h
        · rename_i hx hy
          simp only [Option.some.injEq,Prod.mk.injEq] at h
          obtain ⟨rfl,rfl⟩:=h
          exact .inl ⟨e,hT.und hu,by rw [hn2];exact hn0,by simp only [opO_look hx,opO_look hy];exact ⟨hc.1,hc.2,by rw [hn2]⟩⟩
        · rename_i hx hy
          simp only [Option.some.injEq,Prod.mk.injEq] at h
          obtain ⟨rfl,rfl⟩:=h
          exact .inl ⟨e,hT.und hu,by rw [hn2];exact hn0,by simp only [opO_look hx,opO_look hy];exact ⟨hc.1,hc.2,by rw [hn2]⟩⟩
        · cases h
    · rename_i n e hu
      split at h
      · rename_i hce
        have hce:=hT.cel hce (by decide)
        split at h
        · rename_i hx hy
          simp only [Option.some.injEq,Prod.mk.injEq] at h
          obtain ⟨rfl,rfl⟩:=h
          exact .inr ⟨n,e,hT.und hu,hce,by simp only [opO_look hx,opO_look hy];exact ⟨hc.1,hc.2,trivial⟩⟩
        · cases h
      · cases h
    · cases h
  · exact sliceF_spec hT h hc
  · split at h
    · rename_i hx
      simp only [PE0,opO_look hx]
      split at h
      all_goals first
        | (rename_i hy
           simp only [Option.some.injEq,Prod.mk.injEq] at h
           rw [← h.1]
           exact ⟨hy,trivial⟩)
        | cases h
    · cases h
  · split at h
    · rename_i hb
      simp only [PE0,hb]
      split at h
      · rename_i ha ht
        split at h
        · rename_i hu hx
          split at h
          · rename_i r hr
            simp only [Option.some.injEq,Prod.mk.injEq] at h
            obtain ⟨rfl,rfl⟩:=h
            simp only [ha,ht,builtinE,opO_look hx]
            exact len_spec (hT.und hu) hr
          · cases h
        · cases h
      · rename_i ha
        split at h
        · rename_i hx hy
          simp only [Option.some.injEq,Prod.mk.injEq] at h
          simp only [ha,builtinE,List.map_cons,List.map_nil,opO_look hx,opO_look hy,minE]
          exact h.1.symm
        · cases h
      · rename_i ha
        split at h
        · rename_i hx hy
          simp only [Option.some.injEq,Prod.mk.injEq] at h
          simp only [ha,builtinE,List.map_cons,List.map_nil,opO_look hx,opO_look hy,minE]
          exact h.1.symm
        · cases h
      · rename_i ha
        split at h
        · rename_i hx hy hz
          simp only [Option.some.injEq,Prod.mk.injEq] at h
          simp only [ha,builtinE,List.map_cons,List.map_nil,opO_look hx,opO_look hy,opO_look hz,minE]
          exact h.1.symm
        · cases h
      · cases h
    · cases h
  · cases h

theorem evF_sound (hT : TOk P T) {op : Op} {v : AVal} (h : evF T fl op = some v) : FE P (look (lk' fl)) op v:=by
  unfold evF at h
  split at h
  · split at h
    · rename_i hx hy
      show fbinE _ _ _ _
      rw [opO_look hx,opO_look hy]
      exact fbinF_spec h
    · cases h
  · split at h
    · rename_i hx
      show funE _ _ _
      rw [opO_look hx]
      exact (Option.some.inj h).symm
    · rename_i hx
      show funE _ _ _
      rw [opO_look hx]
      exact (Option.some.inj h).symm
    · cases h
  · split at h
    · rename_i hx hs hd
      show fconvE P _ _ _ _
      rw [opO_look hx]
      exact ⟨by rw [hT.und hs];simp,hT.und hd,(Option.some.inj h).symm⟩
    · rename_i hx hs hd
      show fconvE P _ _ _ _
      rw [opO_look hx]
      exact ⟨hT.und hs,.inl ⟨hT.und hd,(Option.some.inj h).symm⟩⟩
    · cases h
  · split at h
    · rename_i hb
      simp only [FE,hb]
      split at h
      · rename_i ha
        split at h
        · rename_i hx hy
          simp only [ha,fbuiltE,List.map_cons,List.map_nil,opO_look hx,opO_look hy]
          exact (Option.some.inj h).symm
        · cases h
      · rename_i ha
        split at h
        · rename_i hx
          simp only [ha,fbuiltE,List.map_cons,List.map_nil,opO_look hx]
          exact (Option.some.inj h).symm
        · cases h
      · rename_i ha
        split at h
        · rename_i hx
          simp only [ha,fbuiltE,List.map_cons,List.map_nil,opO_look hx]
          exact (Option.some.inj h).symm
        · cases h
      · cases h
    · cases h
  · cases h
theorem evP_sound (hT : TOk P T) {ex : Bool} {op : Op} {v : AVal} {C : Prop} (h : evP T ex fl op = some (v,C)) (hc : C) : PE P (look (lk' fl)) op v:=by
  unfold evP at h
  split at h
  · rename_i hv
    simp only [Option.some.injEq,Prod.mk.injEq] at h
    obtain ⟨rfl,-⟩:=h
    exact .inr (evF_sound hT hv)
  · exact .inl (evP0_sound hT h hc)

def Stp (P : Program) (mu : FuncId→Bool) (ops : Array Oper) (o : Oper) (st : St) (K : St→Prop) : Prop:=∃ st',aStep P mu ops o st st'∧K st'

theorem aOps_cons {o : Oper} {rest : List Oper} {Q : St→Prop} {st : St} (h : Stp P mu ops o st (aOps P mu ops rest Q)) : aOps P mu ops (o :: rest) Q st:=h

theorem evP_plain (hT : TOk P T) {ex : Bool} {op : Op} {v : AVal} {C : Prop} {S' : Store} {d : Option Nat} {ty : TypeId} {pos : String} {after : Array Edge} {g : Option (Nat × Bool)} (h : evP T ex fl op = some (v,C)) (hc : C) :
    aExec P mu ⟨d,op,ty,pos,after,g⟩ ⟨lk' fl,S'⟩ ⟨putF (lk' fl) d v,S'⟩:=by
  have hp:=evP_sound hT h hc
  cases op with
  | call c =>
    obtain ⟨cl,args,tys⟩:=c
    cases cl with
    | builtin b =>
      have : ¬ kindC mu ⟨.builtin b,args,tys⟩ = .app:=by
        cases b <;> simp [kindC] <;> simp [evP,evF,evP0] at h
      simp only [aExec,if_neg this]
      exact ⟨v,S',⟨hp,rfl⟩,rfl⟩
    | value x=>simp [evP,evF,evP0] at h
    | invoke r m=>simp [evP,evF,evP0] at h
  | load _ _=>simp [evP,evF,evP0] at h
  | store _ _ _=>simp [evP,evF,evP0] at h
  | alloc _=>simp [evP,evF,evP0] at h
  | box _ _=>simp [evP,evF,evP0] at h
  | buildSlice _ _ _=>simp [evP,evF,evP0] at h
  | makeSlice _ _ _=>simp [evP,evF,evP0] at h
  | _=>exact ⟨v,S',⟨hp,rfl⟩,rfl⟩

theorem stp_pure (hT : TOk P T) (ex : Bool) {op : Op} {v : AVal} {C : Prop} {S' : Store} {d : Nat} {ty : TypeId} {pos : String} {after : Array Edge} (h : evP T ex fl op = some (v,C)) (hc : C) (k : K ⟨lk' ((d,v) :: fl),S'⟩) :
    Stp P mu ops ⟨some d,op,ty,pos,after,none⟩ ⟨lk' fl,S'⟩ K :=
  ⟨_,evP_plain hT h hc,by rw [putF_lk];exact k⟩

theorem stp_sind (hT : TOk P T) {x i : Operand} {t : Nat} {s : ByteArray} {k : IntKind} {j : Int} {b : UInt8} {S' : Store} {d : Nat} {ty : TypeId} {pos : String} {after : Array Edge} (hu : undT T t = some .string)
    (hx : opO fl x = some (.c (.sc (.string s)))) (hi : opO fl i = some (ivl k j)) (h0 : 0 ≤ j) (hb : s[j.toNat]? = some b) (kk : K ⟨lk' ((d,ivl .u8 b.toNat) :: fl),S'⟩) :
    Stp P mu ops ⟨some d,.index t x i,ty,pos,after,none⟩ ⟨lk' fl,S'⟩ K :=
  ⟨⟨putF (lk' fl) (some d) (ivl .u8 b.toNat),S'⟩,⟨_,S',⟨.inl (by simp only [PE0];exact ⟨hT.und hu,by rw [opO_look hx,opO_look hi];exact ⟨h0,b,hb,rfl⟩⟩),rfl⟩,rfl⟩,by rw [putF_lk];exact kk⟩

theorem stp_cmp {op : BinOp} {t0 T' : TypeId} {x y : Operand} {k k' : IntKind} {a b : Int} {p : Prop} {S' : Store} {d : Nat} {ty : TypeId} {pos : String} {after : Array Edge}
    (hx : opO fl x = some (ivl k a)) (hy : opO fl y = some (ivl k' b)) (hk : kEq k k' = true) (hp : cmpP op a b = some p)
    (h1 : p→K ⟨lk' ((d,bvl true) :: fl),S'⟩) (h2 : ¬ p→K ⟨lk' ((d,bvl false) :: fl),S'⟩) : Stp P mu ops ⟨some d,.binOp op t0 x y T',ty,pos,after,none⟩ ⟨lk' fl,S'⟩ K:=by
  have key : ∀ t : Bool,(t = true ↔ p)→K ⟨lk' ((d,bvl t) :: fl),S'⟩:=fun t ht=>by
    cases t with
    | true=>exact h1 (ht.1 rfl)
    | false=>exact h2 (fun q=>by have:=ht.2 q;cases this)
  have ek:=kEq_eq hk
  have mk : ∀ t : Bool,isShift op = false→intE op k a b (bvl t)→(t = true ↔ p)→Stp P mu ops ⟨some d,.binOp op t0 x y T',ty,pos,after,none⟩ ⟨lk' fl,S'⟩ K:=fun t hs ht hq =>
    ⟨⟨putF (lk' fl) (some d) (bvl t),S'⟩,⟨bvl t,S',⟨.inl (by simp only [PE0,opO_look hx,opO_look hy,binE,hs];exact ⟨ek,ht⟩),rfl⟩,rfl⟩,by rw [putF_lk];exact key t hq⟩
  cases op <;> simp only [cmpP] at hp <;> (first | cases hp;done | (obtain rfl:=Option.some.inj hp))
  case eql=>exact mk (a == b) rfl rfl (by simp)
  case neq=>exact mk (a != b) rfl rfl (by simp)
  case lss=>exact mk (decide (a < b)) rfl rfl (by simp)
  case leq=>exact mk (decide (a ≤ b)) rfl rfl (by simp)
  case gtr=>exact mk (decide (a > b)) rfl rfl (by simp)
  case geq=>exact mk (decide (a ≥ b)) rfl rfl (by simp)

/-! guards -/
variable {dst : Option Nat} {op : Op} {ty : TypeId} {pos : String} {after : Array Edge}
theorem stp_gT {j t : Nat} {want : Bool} {S' : Store} (hg : (ops[j]?).bind (·.dst) = some t) (hb : lkO fl t = some (bvl want)) (k : Stp P mu ops ⟨dst,op,ty,pos,after,none⟩ ⟨lk' fl,S'⟩ K) :
    Stp P mu ops ⟨dst,op,ty,pos,after,some (j,want)⟩ ⟨lk' fl,S'⟩ K:=by
  obtain ⟨st',h1,h2⟩:=k
  have hy : yA ops (lk' fl) j = some (some want):=by simp only [yA,hg,lkO_look hb]
  refine ⟨st',?_,h2⟩
  simp only [aStep,hy]
  exact ⟨fun _=>h1,fun q=>absurd rfl q⟩
theorem stp_gF {j t d : Nat} {b want : Bool} {S' : Store} (hg : (ops[j]?).bind (·.dst) = some t) (hb : lkO fl t = some (bvl b)) (hne : b = !want) (k : K ⟨lk' ((d,.c (.sc undef)) :: fl),S'⟩) :
    Stp P mu ops ⟨some d,op,ty,pos,after,some (j,want)⟩ ⟨lk' fl,S'⟩ K:=by
  have hy : yA ops (lk' fl) j = some (some b):=by simp only [yA,hg,lkO_look hb]
  refine ⟨_,?_,by rw [← putF_lk] at k;exact k⟩
  simp only [aStep,hy]
  exact ⟨fun q=>absurd hne (by rw [q];simp),fun _=>trivial⟩
theorem stp_gU {j t d : Nat} {vs : Array Value} {want : Bool} {S' : Store} (hg : (ops[j]?).bind (·.dst) = some t) (hb : lkO fl t = some (.c (.sc (.tuple vs)))) (k : K ⟨lk' ((d,.c (.sc undef)) :: fl),S'⟩) :
    Stp P mu ops ⟨some d,op,ty,pos,after,some (j,want)⟩ ⟨lk' fl,S'⟩ K:=by
  have hy : yA ops (lk' fl) j = some none:=by simp only [yA,hg,lkO_look hb]
  refine ⟨_,?_,by rw [← putF_lk] at k;exact k⟩
  simp only [aStep,hy]
end
end Go.Abs

/-
  Steps that read and write the store, calls, appends.
-/
namespace Go.Abs
open Go

def headL : List Leaf→Option Cell
  | .sc v :: _=>some (.sc v)
  | .ints k L :: _=>some (.ints k L)
  | .intc k L n :: _=>some (.intc k L n)
  | .pim cs :: _=>some (.pim cs)
  | .seq sz L :: _=>some (.seq sz L)
  | .seqc sz L n :: _=>some (.seqc sz L n)
  | .fx x :: _=>some (.fx x)
  | []=>none
theorem headL_spec {cs : List Leaf} {y : Cell} (h : headL cs = some y) : ∃ x,cs[0]? = some x∧y = x.cell:=by
  match cs,h with
  | .sc v :: _,h=>exact ⟨_,rfl,(Option.some.inj h).symm⟩
  | .ints k L :: _,h=>exact ⟨_,rfl,(Option.some.inj h).symm⟩
  | .intc k L n :: _,h=>exact ⟨_,rfl,(Option.some.inj h).symm⟩
  | .pim cs :: _,h=>exact ⟨_,rfl,(Option.some.inj h).symm⟩
  | .seq sz L :: _,h=>exact ⟨_,rfl,(Option.some.inj h).symm⟩
  | .seqc sz L n :: _,h=>exact ⟨_,rfl,(Option.some.inj h).symm⟩
  | .fx x :: _,h=>exact ⟨_,rfl,(Option.some.inj h).symm⟩

def objO : AObj→Nat→Option (Cell × Prop)
  | .cells _ cs,off=>match cs[off]? with
    | some y=>some (y,True)
    | none=>none
  | .ints _ k L,off=>some (.sc (.int k (L.getD off 0)),off < L.length)
  | .acc ..,_=>none
  | .fix _,_=>none
  | .row _ cs,off=>match cs[off]? with
    | some y=>some (y,True)
    | none=>none

def solidF : Cell→Bool
  | .sc v=>v.oneCell'
  | .junk=>false
  | _=>true
theorem solidF_spec {x : Cell} (h : solidF x = true) : x.solid:=by cases x <;> first | trivial | exact h | cases h

def setL : List Cell→Nat→Cell→Option (List Cell)
  | [],_,_=>none
  | _ :: cs,0,y=>some (y :: cs)
  | c :: cs,n + 1,y=>match setL cs n y with
    | some r=>some (c :: r)
    | none=>none
theorem setL_spec : ∀ {cs : List Cell} {n : Nat} {y : Cell} {out : List Cell},setL cs n y = some out→n + 1 ≤ cs.length∧out = spl cs n [y]
  | c :: cs,0,y,out,h=>by simp only [setL,Option.some.injEq] at h;subst h;simp [spl]
  | c :: cs,n + 1,y,out,h=>by
    simp only [setL] at h
    split at h
    · rename_i r hr
      obtain ⟨h1,h2⟩:=setL_spec hr
      simp only [Option.some.injEq] at h
      subst h
      refine ⟨by simp;omega,?_⟩
      subst h2
      simp [spl,List.take_succ_cons]
    · cases h

def putO (T : TT) (t : TypeId) (o : AObj) (off : Nat) (x : AVal) : Option (AObj × Prop) :=
  match o with
  | .ints ty k L=>match x,celT T t with
    | .c (.sc (.int k' y)),1=>match kEq k k' with
      | true=>some (.ints ty k (L.set off y),off < L.length)
      | false=>none
    | _,_=>none
  | .cells ty cs=>match x,celT T t with
    | .c y,1=>match solidF y,setL cs off y with
      | true,some cs'=>some (.cells ty cs',True)
      | _,_=>none
    | .agg ys,n + 1=>some (.cells ty (spl cs off ys),ys.length = n + 1∧off + ys.length ≤ cs.length)
    | _,_=>none
  | .acc ..=>none
  | .fix _=>none
  | .row ty cs=>match x,celT T t with
    | .c y,1=>match solidF y with
      | true=>some (.row ty (cs.set off y),off < cs.length)
      | false=>none
    | _,_=>none

def normC : List Cell→Option (List Cell)
  | []=>some []
  | .sc v :: xs=>match normC xs,v.oneCell' with
    | some r,true=>some (.sc v :: r)
    | _,_=>none
  | .fx x :: xs=>match normC xs with
    | some r=>some (.fx x :: r)
    | none=>none
  | _=>none
theorem normC_spec : ∀ {xs ys : List Cell},normC xs = some ys→ys = xs∧∀ x ∈ xs,x.solid
  | [],ys,h=>by simp only [normC,Option.some.injEq] at h;subst h;simp
  | .sc v :: xs,ys,h=>by
    simp only [normC] at h
    split at h
    · rename_i r hr hv
      obtain ⟨h1,h2⟩:=normC_spec hr
      simp only [Option.some.injEq] at h
      subst h;subst h1
      refine ⟨rfl,fun x hx=>?_⟩
      rcases List.mem_cons.1 hx with rfl | hx
      · exact hv
      · exact h2 x hx
    · cases h
  | .fx v :: xs,ys,h=>by
    simp only [normC] at h
    split at h
    · rename_i r hr
      obtain ⟨h1,h2⟩:=normC_spec hr
      simp only [Option.some.injEq] at h
      subst h;subst h1
      refine ⟨rfl,fun x hx=>?_⟩
      rcases List.mem_cons.1 hx with rfl | hx
      · exact trivial
      · exact h2 x hx
    · cases h

def zerF (T : TT) (e : TypeId) : Option (List Cell) :=
  match zerT T e with
  | some z=>normC (z.cells.toList.map cellC)
  | none=>none
theorem zerF_spec {P : Program} {T : TT} (hT : TOk P T) {e : TypeId} {z : List Cell} (h : zerF T e = some z) : zeroCells P e = some z∧∀ x ∈ z,x.solid:=by
  unfold zerF at h
  split at h
  · rename_i z' hz
    obtain ⟨h1,h2⟩:=normC_spec h
    subst h1
    exact ⟨by simp only [zeroCells,hT.zer hz,Option.map_some],h2⟩
  · cases h

def intsPart (fl : FL) : List (Nat × Operand)→Nat→Option (IntKind × List Int)
  | [],_=>none
  | [(i,x)],n=>match Nat.beq i n,opO fl x with
    | true,some (.c (.sc (.int k a)))=>some (k,[a])
    | _,_=>none
  | (i,x) :: r,n=>match Nat.beq i n,opO fl x,intsPart fl r (n + 1) with
    | true,some (.c (.sc (.int k a))),some (k',L)=>match kEq k k' with
      | true=>some (k,a :: L)
      | false=>none
    | _,_,_=>none

section
variable {P : Program} {T : TT} {mu : FuncId→Bool} {N : Nat} {ops : Array Oper} {fl : FL} {sl : SL} {S : Store} {K : St→Prop}
  {d : Nat} {ty : TypeId} {pos : String} {after : Array Edge}

theorem stp_loadp (hT : TOk P T) {t : TypeId} {x : Operand} {cs : List Leaf} {y : Cell} {S' : Store} (hx : opO fl x = some (.c (.pim cs))) (ha : agT T t = some false) (hy : headL cs = some y) (k : K ⟨lk' ((d,.c y) :: fl),S'⟩) :
    Stp P mu ops ⟨some d,.load t x,ty,pos,after,none⟩ ⟨lk' fl,S'⟩ K:=by
  obtain ⟨l,h1,rfl⟩:=headL_spec hy
  exact ⟨_,⟨.c l.cell,S',⟨by rw [opO_look hx];exact .inr ⟨hT.ag ha,l,h1,rfl⟩,rfl⟩,rfl⟩,by rw [putF_lk];exact k⟩

theorem stp_loadpa (hT : TOk P T) {t : TypeId} {x : Operand} {cs : List Leaf} {n : Nat} {S' : Store} (hx : opO fl x = some (.c (.pim cs))) (ha : agT T t = some true) (hn : celT T t = n + 1) (hl : n + 1 ≤ cs.length)
    (k : K ⟨lk' ((d,.agg ((cs.take (n + 1)).map Leaf.cell)) :: fl),S'⟩) :
    Stp P mu ops ⟨some d,.load t x,ty,pos,after,none⟩ ⟨lk' fl,S'⟩ K :=
  ⟨_,⟨_,S',⟨by rw [opO_look hx];exact .inl ⟨hT.ag ha,by rw [hT.cel hn (by simp)];simp,by rw [hT.cel hn (by simp)];exact hl,by rw [hT.cel hn (by simp)]⟩,rfl⟩,rfl⟩,by rw [putF_lk];exact k⟩

theorem stp_load (hT : TOk P T) {t : TypeId} {x : Operand} {m : Nm} {off : Nat} {o : AObj} {y : Cell} {C : Prop} (hx : opO fl x = some (.c (.ptr m off))) (ha : agT T t = some false) (hm : lkS sl m = some o) (hy : objO o off = some (y,C)) (hc : C)
    (k : K ⟨lk' ((d,.c y) :: fl),ov sl S⟩) : Stp P mu ops ⟨some d,.load t x,ty,pos,after,none⟩ ⟨lk' fl,ov sl S⟩ K:=by
  refine ⟨_,⟨.c y,ov sl S,⟨?_,rfl⟩,rfl⟩,by rw [putF_lk];exact k⟩
  rw [opO_look hx]
  refine ⟨o,ov_of hm,.inr ⟨hT.ag ha,y,?_,rfl⟩⟩
  cases o with
  | cells ty cs =>
    simp only [objO] at hy
    split at hy
    · rename_i y' hy';simp only [Option.some.injEq,Prod.mk.injEq] at hy;obtain ⟨rfl,-⟩:=hy;exact hy'
    · cases hy
  | ints ty k L =>
    simp only [objO,Option.some.injEq,Prod.mk.injEq] at hy
    obtain ⟨rfl,rfl⟩:=hy
    simp [objCell,List.getElem?_eq_getElem hc]
  | acc ty k L=>cases hy
  | fix x=>cases hy
  | row ty cs =>
    simp only [objO] at hy
    split at hy
    · rename_i y' hy';simp only [Option.some.injEq,Prod.mk.injEq] at hy;obtain ⟨rfl,-⟩:=hy;exact hy'
    · cases hy

theorem stp_loada (hT : TOk P T) {t : TypeId} {x : Operand} {m : Nm} {off n : Nat} {ty' : TypeId} {cs : List Cell} (hx : opO fl x = some (.c (.ptr m off))) (ha : agT T t = some true) (hn : celT T t = n + 1) (hm : lkS sl m = some (.cells ty' cs))
    (hl : off + (n + 1) ≤ cs.length) (k : K ⟨lk' ((d,.agg ((cs.drop off).take (n + 1))) :: fl),ov sl S⟩) : Stp P mu ops ⟨some d,.load t x,ty,pos,after,none⟩ ⟨lk' fl,ov sl S⟩ K:=by
  refine ⟨_,⟨_,ov sl S,⟨?_,rfl⟩,rfl⟩,by rw [putF_lk];exact k⟩
  rw [opO_look hx]
  exact ⟨_,ov_of hm,.inl ⟨hT.ag ha,by rw [hT.cel hn (by simp)];simp,ty',cs,rfl,by rw [hT.cel hn (by simp)];exact hl,by rw [hT.cel hn (by simp)]⟩⟩

theorem stp_store (hT : TOk P T) {t : TypeId} {x y : Operand} {m : Nm} {off : Nat} {o o' : AObj} {v : AVal} {C : Prop} (hx : opO fl x = some (.c (.ptr m off))) (hy : opO fl y = some v) (hm : lkS sl m = some o) (ho : putO T t o off v = some (o',C)) (hc : C)
    (k : K ⟨lk' fl,ov ((m,o') :: sl) S⟩) : Stp P mu ops ⟨none,.store t x y,ty,pos,after,none⟩ ⟨lk' fl,ov sl S⟩ K:=by
  refine ⟨⟨lk' fl,upd (ov sl S) m o'⟩,⟨.c (.sc undef),_,⟨?_,rfl⟩,rfl⟩,by rw [upd_ov];exact k⟩
  rw [opO_look hx,opO_look hy]
  unfold putO at ho
  split at ho
  · rename_i ty kk L
    split at ho
    · rename_i k' y hn
      split at ho
      · rename_i hk
        simp only [Option.some.injEq,Prod.mk.injEq] at ho
        obtain ⟨rfl,rfl⟩:=ho
        obtain rfl:=kEq_eq hk
        exact .inr (.inl ⟨ty,kk,L,y,ov_of hm,hT.cel hn (by simp),rfl,hc,rfl⟩)
      · cases ho
    · cases ho
  · rename_i ty cs
    split at ho
    · rename_i y hn
      split at ho
      · rename_i cs' hs hset
        have hn:=hT.cel hn (by simp)
        simp only [Option.some.injEq,Prod.mk.injEq] at ho
        obtain ⟨rfl,rfl⟩:=ho
        obtain ⟨h1,rfl⟩:=setL_spec hset
        exact .inl ⟨ty,cs,ov_of hm,solidF_spec hs,by omega,by simp [AVal.cells,hn],by simpa [AVal.cells] using h1,rfl⟩
      · cases ho
    · rename_i ys n hn
      have hn:=hT.cel hn (by simp)
      simp only [Option.some.injEq,Prod.mk.injEq] at ho
      obtain ⟨rfl,rfl⟩:=ho
      exact .inl ⟨ty,cs,ov_of hm,trivial,by omega,by simp [AVal.cells,hn,hc.1],hc.2,rfl⟩
    · cases ho
  · cases ho
  · cases ho
  · rename_i ty cs
    split at ho
    · rename_i y hn
      split at ho
      · rename_i hs
        simp only [Option.some.injEq,Prod.mk.injEq] at ho
        obtain ⟨rfl,rfl⟩:=ho
        exact .inr (.inr ⟨ty,cs,y,ov_of hm,hT.cel hn (by simp),rfl,solidF_spec hs,hc,rfl⟩)
      · cases ho
    · cases ho

def freeO : SL→Nat→Bool
  | [],_=>true
  | (.loc a,_) :: r,d=>match Nat.beq a d with
    | true=>false
    | false=>freeO r d
  | (.fam (.loc a) _,_) :: r,d=>match Nat.beq a d with
    | true=>false
    | false=>freeO r d
  | _ :: r,d=>freeO r d
theorem freeO_spec {S : Store} : ∀ {sl : SL} {d : Nat},freeO sl d = true→(ov sl (pushS S)) (.loc d) = none
  | [],d,_=>rfl
  | (.loc a,o) :: r,d,h=>by
    simp only [freeO] at h
    split at h
    · cases h
    · rename_i e
      have : d ≠ a:=fun q=>by subst q;simp [Nat.beq_refl] at e
      have ih:=freeO_spec (S:=S) h
      simpa [ov,lkS,this] using ih
  | (.out a,o) :: r,d,h=>by have ih:=freeO_spec (S:=S) (sl:=r) h;simpa [ov,lkS] using ih
  | (.new,o) :: r,d,h=>by have ih:=freeO_spec (S:=S) (sl:=r) h;simpa [ov,lkS] using ih
  | (.fam (.loc a) i,o) :: r,d,h=>by
    simp only [freeO] at h
    split at h
    · cases h
    · have ih:=freeO_spec (S:=S) (sl:=r) h;simpa [ov,lkS] using ih
  | (.fam (.out a) i,o) :: r,d,h=>by have ih:=freeO_spec (S:=S) (sl:=r) h;simpa [ov,lkS] using ih
  | (.fam .new i,o) :: r,d,h=>by have ih:=freeO_spec (S:=S) (sl:=r) h;simpa [ov,lkS] using ih
  | (.fam (.fam a j) i,o) :: r,d,h=>by have ih:=freeO_spec (S:=S) (sl:=r) h;simpa [ov,lkS] using ih
theorem freeO_fam {S : Store} (i : Nat) : ∀ {sl : SL} {d : Nat},freeO sl d = true→(ov sl (pushS S)) (.fam (.loc d) i) = none
  | [],d,_=>rfl
  | (.loc a,o) :: r,d,h=>by
    simp only [freeO] at h
    split at h
    · cases h
    · have ih:=freeO_fam i (S:=S) h;simpa [ov,lkS] using ih
  | (.out a,o) :: r,d,h=>by have ih:=freeO_fam i (S:=S) (sl:=r) h;simpa [ov,lkS] using ih
  | (.new,o) :: r,d,h=>by have ih:=freeO_fam i (S:=S) (sl:=r) h;simpa [ov,lkS] using ih
  | (.fam (.loc a) j,o) :: r,d,h=>by
    simp only [freeO] at h
    split at h
    · cases h
    · rename_i e
      have : d ≠ a:=fun q=>by subst q;simp [Nat.beq_refl] at e
      have ih:=freeO_fam i (S:=S) h
      simpa [ov,lkS,this] using ih
  | (.fam (.out a) j,o) :: r,d,h=>by have ih:=freeO_fam i (S:=S) (sl:=r) h;simpa [ov,lkS] using ih
  | (.fam .new j,o) :: r,d,h=>by have ih:=freeO_fam i (S:=S) (sl:=r) h;simpa [ov,lkS] using ih
  | (.fam (.fam a k) j,o) :: r,d,h=>by have ih:=freeO_fam i (S:=S) (sl:=r) h;simpa [ov,lkS] using ih

theorem stp_alloc (hT : TOk P T) {e : TypeId} {z : List Cell} (hz : zerF T e = some z) (hf : freeO sl d = true) (k : K ⟨lk' ((d,.c (.ptr (.loc d) 0)) :: fl),ov ((.loc d,.cells e z) :: sl) (pushS S)⟩) :
    Stp P mu ops ⟨some d,.alloc e,ty,pos,after,none⟩ ⟨lk' fl,ov sl (pushS S)⟩ K:=by
  obtain ⟨h1,h2⟩:=zerF_spec hT hz
  exact ⟨_,⟨_,_,⟨d,.cells e z,rfl,freeO_spec hf,⟨z,h1,h2,rfl,rfl⟩,rfl⟩,rfl⟩,by rw [putF_lk,upd_ov];exact k⟩

theorem stp_box {e : TypeId} {x : Operand} {y : Cell} (hx : opO fl x = some (.c y)) (hs : solidF y = true) (hf : freeO sl d = true) (k : K ⟨lk' ((d,.c (.ptr (.loc d) 0)) :: fl),ov ((.loc d,.cells e [y]) :: sl) (pushS S)⟩) :
    Stp P mu ops ⟨some d,.box e x,ty,pos,after,none⟩ ⟨lk' fl,ov sl (pushS S)⟩ K :=
  ⟨_,⟨_,_,⟨d,.cells e [y],rfl,freeO_spec hf,⟨by rw [opO_look hx];exact solidF_spec hs,rfl,by rw [opO_look hx];rfl⟩,rfl⟩,rfl⟩,by rw [putF_lk,upd_ov];exact k⟩

theorem stp_make (hT : TOk P T) {t e : TypeId} {l c : Operand} {a b : Int} {ka kb k : IntKind} (ht : undT T t = some (.slice e)) (hc1 : celT T e = 1) (hb8 : bytT T e = some 8) (hz : zerF T e = some [.sc (.int k 0)])
    (hl : opO fl l = some (ivl ka a)) (hc : opO fl c = some (ivl kb b)) (hf : freeO sl d = true) (hb : 0 ≤ a∧a ≤ b∧b ≤ 35184372088832)
    (kk : K ⟨lk' ((d,.c (.win (.loc d) 0 a.toNat b.toNat)) :: fl),ov ((.loc d,.ints e k (List.replicate b.toNat 0)) :: sl) (pushS S)⟩) :
    Stp P mu ops ⟨some d,.makeSlice t l c,ty,pos,after,none⟩ ⟨lk' fl,ov sl (pushS S)⟩ K:=by
  have ht:=hT.und ht
  have hc1:=hT.cel hc1 (by simp)
  have hb8:=hT.byt hb8
  obtain ⟨h1,h2⟩:=zerF_spec hT hz
  refine ⟨_,⟨_,_,⟨d,.ints e k (List.replicate b.toNat 0),rfl,freeO_spec hf,⟨e,_,ht,by omega,h1,by simp [hc1],h2,?_⟩,rfl⟩,rfl⟩,by rw [putF_lk,upd_ov];exact kk⟩
  rw [opO_look hl,opO_look hc]
  exact ⟨hb.1,hb.2.1,by rw [hb8];omega,by omega,.inl ⟨rfl,.inr ⟨k,0,rfl,rfl⟩⟩⟩

theorem stp_make1 (hT : TOk P T) {t e : TypeId} {l c : Operand} {a b : Int} {ka kb k : IntKind} (ht : undT T t = some (.slice e)) (hc1 : celT T e = 1) (hb8 : bytT T e = some 1) (hz : zerF T e = some [.sc (.int k 0)])
    (hl : opO fl l = some (ivl ka a)) (hc : opO fl c = some (ivl kb b)) (hf : freeO sl d = true) (hb : 0 ≤ a∧a ≤ b∧b ≤ 281474976710656)
    (kk : K ⟨lk' ((d,.c (.win (.loc d) 0 a.toNat b.toNat)) :: fl),ov ((.loc d,.ints e k (List.replicate b.toNat 0)) :: sl) (pushS S)⟩) :
    Stp P mu ops ⟨some d,.makeSlice t l c,ty,pos,after,none⟩ ⟨lk' fl,ov sl (pushS S)⟩ K:=by
  have ht:=hT.und ht
  have hc1:=hT.cel hc1 (by simp)
  have hb8:=hT.byt hb8
  obtain ⟨h1,h2⟩:=zerF_spec hT hz
  refine ⟨_,⟨_,_,⟨d,.ints e k (List.replicate b.toNat 0),rfl,freeO_spec hf,⟨e,_,ht,by omega,h1,by simp [hc1],h2,?_⟩,rfl⟩,rfl⟩,by rw [putF_lk,upd_ov];exact kk⟩
  rw [opO_look hl,opO_look hc]
  exact ⟨hb.1,hb.2.1,by rw [hb8];omega,by omega,.inl ⟨rfl,.inr ⟨k,0,rfl,rfl⟩⟩⟩

theorem stp_makeA (hT : TOk P T) {t e : TypeId} {l c : Operand} {a b : Int} {ka kb k : IntKind} (ht : undT T t = some (.slice e)) (hc1 : celT T e = 1) {nb : Nat} (hb8 : bytT T e = some nb) (hz : zerF T e = some [.sc (.int k 0)])
    (hl : opO fl l = some (ivl ka a)) (hc : opO fl c = some (ivl kb b)) (hf : freeO sl d = true) (hab : a = b) (hb : 0 ≤ a∧(nb : Int) * b ≤ 281474976710656∧b ≤ 9223372036854775807)
    (kk : K ⟨lk' ((d,.accv (.loc d) b.toNat) :: fl),ov ((.loc d,.accI e k (List.replicate b.toNat 0)) :: sl) (pushS S)⟩) :
    Stp P mu ops ⟨some d,.makeSlice t l c,ty,pos,after,none⟩ ⟨lk' fl,ov sl (pushS S)⟩ K:=by
  have ht:=hT.und ht
  have hc1:=hT.cel hc1 (by simp)
  have hb8:=hT.byt hb8
  obtain ⟨h1,h2⟩:=zerF_spec hT hz
  refine ⟨_,⟨_,_,⟨d,.accI e k (List.replicate b.toNat 0),rfl,freeO_spec hf,⟨e,_,ht,by omega,h1,by simp [hc1],h2,?_⟩,rfl⟩,rfl⟩,by rw [putF_lk,upd_ov];exact kk⟩
  rw [opO_look hl,opO_look hc]
  exact ⟨hb.1,by omega,by rw [hb8];omega,by omega,.inr ⟨hab,rfl,by rw [hc1];simp [AObj.accI,List.map_replicate]⟩⟩

theorem int_fill {k : IntKind} : ∀ (ps : List (Nat × Operand)) (n : Nat) (pre : List Int) (L : List Int) (tl : List Cell),intsPart fl ps n = some (k,L)→pre.length = n→ps.length = tl.length →
    fillE (fun i=>some (i * 1,1)) (look (lk' fl)) (intsOf k pre ++ tl) ps (intsOf k (pre ++ L))
  | [],n,pre,L,tl,h,_,_=>by cases h
  | [(i,x)],n,pre,L,tl,h,hp,ht=>by
    simp only [intsPart] at h
    split at h
    · rename_i k' a hi hx
      simp only [Option.some.injEq,Prod.mk.injEq] at h
      obtain ⟨rfl,rfl⟩:=h
      have:=Nat.eq_of_beq_eq_true hi
      subst this
      match tl,ht with
      | [y],_ =>
        refine ⟨_,_,rfl,by rw [opO_look hx];rfl,by rw [opO_look hx];rfl,by simp [intsOf,hp],?_⟩
        rw [opO_look hx]
        simp [fillE,AVal.cells,spl,intsOf,hp]
    · cases h
  | (i,x) :: q :: r,n,pre,L,tl,h,hp,ht=>by
    simp only [intsPart] at h
    split at h
    · rename_i k1 a k2 L2 hi hx hr
      split at h
      · rename_i hk
        simp only [Option.some.injEq,Prod.mk.injEq] at h
        obtain ⟨rfl,rfl⟩:=h
        obtain rfl:=kEq_eq hk
        have:=Nat.eq_of_beq_eq_true hi
        subst this
        match tl,ht with
        | y :: tl,ht =>
          refine ⟨_,_,rfl,by rw [opO_look hx];rfl,by rw [opO_look hx];rfl,by simp [intsOf,hp],?_⟩
          rw [opO_look hx]
          have ih:=int_fill (k:=k1) (q :: r) (i + 1) (pre ++ [a]) L2 tl hr (by simp [hp]) (by simpa using ht)
          have e : spl (intsOf k1 pre ++ y :: tl) (i * 1) (AVal.cells (ivl k1 a)) = intsOf k1 (pre ++ [a]) ++ tl:=by
            have hd : List.drop (i + 1) (List.map (fun x=>Cell.sc (Value.int k1 x)) pre ++ y :: tl) = tl:=by
              rw [List.drop_append];simp [hp]
            simp [spl,AVal.cells,intsOf,hp,hd]
          rw [e]
          simpa using ih
      · cases h
    · cases h

theorem intsPart_len {k : IntKind} : ∀ (ps : List (Nat × Operand)) (n : Nat) {L : List Int},intsPart fl ps n = some (k,L)→L.length = ps.length
  | [],n,L,h=>by cases h
  | [(i,x)],n,L,h=>by
    simp only [intsPart] at h
    split at h
    · simp only [Option.some.injEq,Prod.mk.injEq] at h
      rw [← h.2];rfl
    · cases h
  | (i,x) :: q :: r,n,L,h=>by
    simp only [intsPart] at h
    split at h
    · rename_i k1 a k2 L2 hi hx hr
      split at h
      · rename_i hk
        simp only [Option.some.injEq,Prod.mk.injEq] at h
        obtain ⟨rfl,rfl⟩:=h
        obtain rfl:=kEq_eq hk
        have:=intsPart_len (q :: r) (n + 1) hr
        simp [this]
      · cases h
    · cases h

theorem stp_intsA (hT : TOk P T) {t e : TypeId} {n : Nat} {ps : Array (Nat × Operand)} {k : IntKind} {L : List Int} (ht : undT T t = some (.slice e)) (hc1 : celT T e = 1) (hz : zerF T e = some [.sc (.int k 0)]) (hp : intsPart fl ps.toList 0 = some (k,L) ∨ (ps.toList = []∧L = []))
    (hn : Nat.beq ps.toList.length n = true) (hsmall : Nat.ble n 1000 = true) (hf : freeO sl d = true)
    (kk : K ⟨lk' ((d,.accv (.loc d) n) :: fl),ov ((.loc d,.accI e k L) :: sl) (pushS S)⟩) :
    Stp P mu ops ⟨some d,.buildSlice t n ps,ty,pos,after,none⟩ ⟨lk' fl,ov sl (pushS S)⟩ K:=by
  have ht:=hT.und ht
  have hc1:=hT.cel hc1 (by simp)
  obtain ⟨h1,h2⟩:=zerF_spec hT hz
  have hn:=Nat.eq_of_beq_eq_true hn
  have hs:=Nat.le_of_ble_eq_true hsmall
  have hLn : L.length = n:=by
    rcases hp with hp | ⟨hp,rfl⟩
    · rw [← hn];exact intsPart_len _ _ hp
    · rw [hp] at hn;exact hn
  refine ⟨_,⟨_,_,⟨d,.accI e k L,rfl,freeO_spec hf,⟨e,_,intsOf k L,ht,by omega,by rw [hc1];omega,h1,by simp [hc1],h2,?_,.inr ⟨ir k L,(flat_ir k L).symm,by simp [hLn],by rw [hc1];intro c hc;obtain ⟨y,-,rfl⟩:=List.mem_map.1 hc;rfl,rfl,by rw [hc1]⟩⟩,rfl⟩,rfl⟩,by rw [putF_lk,upd_ov];exact kk⟩
  rcases hp with hp | ⟨hp,rfl⟩
  · have:=int_fill (k:=k) ps.toList 0 [] L (rep n [.sc (.int k 0)]) hp rfl (by rw [rep_length];simp [hn])
    simpa [hc1,intsOf] using this
  · rw [hp] at hn ⊢
    have : n = 0:=hn.symm
    subst this
    rfl

theorem stp_ints (hT : TOk P T) {t e : TypeId} {n : Nat} {ps : Array (Nat × Operand)} {k : IntKind} {L : List Int} (ht : undT T t = some (.slice e)) (hc1 : celT T e = 1) (hz : zerF T e = some [.sc (.int k 0)]) (hp : intsPart fl ps.toList 0 = some (k,L))
    (hn : Nat.beq ps.toList.length n = true) (hsmall : Nat.ble n 1000 = true) (hf : freeO sl d = true)
    (kk : K ⟨lk' ((d,.c (.win (.loc d) 0 n n)) :: fl),ov ((.loc d,.ints e k L) :: sl) (pushS S)⟩) :
    Stp P mu ops ⟨some d,.buildSlice t n ps,ty,pos,after,none⟩ ⟨lk' fl,ov sl (pushS S)⟩ K:=by
  have ht:=hT.und ht
  have hc1:=hT.cel hc1 (by simp)
  obtain ⟨h1,h2⟩:=zerF_spec hT hz
  have hn:=Nat.eq_of_beq_eq_true hn
  have hs:=Nat.le_of_ble_eq_true hsmall
  refine ⟨_,⟨_,_,⟨d,.ints e k L,rfl,freeO_spec hf,⟨e,_,intsOf k L,ht,by omega,by rw [hc1];omega,h1,by simp [hc1],h2,?_,.inl ⟨rfl,.inr ⟨k,L,rfl,rfl⟩⟩⟩,rfl⟩,rfl⟩,by rw [putF_lk,upd_ov];exact kk⟩
  have:=int_fill (k:=k) ps.toList 0 [] L (rep n [.sc (.int k 0)]) hp rfl (by rw [rep_length];simp [hn])
  simpa [hc1,intsOf] using this
end
end Go.Abs

/-
  Calls, appends; states that say less, in the midst of a region; loops.
-/
namespace Go.Abs
open Go

def nm0 (x : AVal) : Prop:=∀ m,¬ x.at m

structure AFun (P : Program) (f : FuncId) (args : List AVal) (res : AVal) : Prop where
  calls : ∀ Φ,ACalls P f args Φ (fun _=>res) (fun _=>[])
  res0 : nm0 res
  args0 : ∀ x ∈ args,nm0 x

structure ASide (mu : FuncId→Bool) (f : FuncId) (d : Option Nat) (Φ : Store) (args : List AVal) (res : AVal) (ups : List (Nm × AObj)) : Prop where
  a1 : ∀ p ∈ ups,p.1 = nmOf d ∨ (∃ i,p.1 = .fam (nmOf d) i) ∨ (mu f = true∧Rch Φ args p.1)
  a2 : ups = [] ∨ (mu f = true) ∨ ∃ k o,d = some k∧ups = [(nmOf d,o)]
  a3 : ∀ m,res.at m→(∃ o,(m,o) ∈ ups) ∨ Rch Φ args m
  a4 : ∀ p ∈ ups,∀ x ∈ p.2.cls,∀ m,x.at m→(∃ o,(m,o) ∈ ups) ∨ Rch Φ args m

def addL : SL→SL→SL
  | sl,[]=>sl
  | sl,p :: ups=>addL (p :: sl) ups
theorem updL_ov {S : Store} : ∀ (ups : SL) (sl : SL),updL (ov sl S) ups = ov (addL sl ups) S
  | [],sl=>rfl
  | p :: ups,sl=>by simp only [updL,addL];rw [upd_ov];exact updL_ov ups _

section
variable {P : Program} {T : TT} {mu : FuncId→Bool} {N : Nat} {ops : Array Oper} {fl : FL} {sl : SL} {S : Store} {K : St→Prop}
  {d : Nat} {ty : TypeId} {pos : String} {after : Array Edge}

theorem kindC_val {f : Operand} {args : Array Operand} {tys : Array TypeId} : ¬ kindC mu ⟨.value f,args,tys⟩ = .app:=by
  cases f <;> simp [kindC]
  split <;> simp

theorem stp_call {g : Operand} {f : FuncId} {caps : List Cell} {as : Array Operand} {tys : Array TypeId} {xs args : List AVal} {Φ : Store} {res : Nm→AVal} {ups : Nm→List (Nm × AObj)}
    (hc : ACalls P f args Φ res ups) (hg : opO fl g = some (.fn f caps)) (hx : opsO fl as.toList = some xs) (hle : ALes (xs ++ caps.map .c) args) (hf : freeO sl d = true) (hΦ : ∀ m,Rch Φ args m→ov sl (pushS S) m = Φ m)
    (hs : ASide mu f (some d) Φ args (res (.loc d)) (ups (.loc d))) (k : K ⟨lk' ((d,res (.loc d)) :: fl),ov (addL sl (ups (.loc d))) (pushS S)⟩) :
    Stp P mu ops ⟨some d,.call ⟨.value g,as,tys⟩,ty,pos,after,none⟩ ⟨lk' fl,ov sl (pushS S)⟩ K:=by
  refine ⟨⟨putF (lk' fl) (some d) (res (.loc d)),updL (ov sl (pushS S)) (ups (.loc d))⟩,?_,by rw [putF_lk,updL_ov];exact k⟩
  simp only [aStep,aExec,if_neg kindC_val]
  exact ⟨_,_,⟨f,caps,args,Φ,res,ups,opO_look hg,by rw [opsO_look hx];exact hle,hc,hΦ,⟨freeO_spec hf,fun i=>freeO_fam i hf⟩,rfl,rfl,hs.a1,hs.a2,hs.a3,hs.a4⟩,rfl⟩

theorem stp_callF {f : FuncId} {as : Array Operand} {tys : Array TypeId} {xs args : List AVal} {res : AVal} (hc : AFun P f args res) (hx : opsO fl as.toList = some xs) (hle : ALes xs args) (hf : freeO sl d = true)
    (k : K ⟨lk' ((d,res) :: fl),ov sl (pushS S)⟩) : Stp P mu ops ⟨some d,.call ⟨.value (.func f),as,tys⟩,ty,pos,after,none⟩ ⟨lk' fl,ov sl (pushS S)⟩ K :=
  stp_call (hc.calls (ov sl (pushS S))) rfl hx (by simpa using hle) hf (fun _ _=>rfl) ⟨by simp,.inl rfl,fun m hm=>absurd hm (hc.res0 m),by simp⟩ k

def killL (n : Nm) : FL→FL
  | []=>[]
  | (t,.accv m k) :: r=>(t,killF n (.accv m k)) :: killL n r
  | (t,.accp m k) :: r=>(t,killF n (.accp m k)) :: killL n r
  | (t,v) :: r=>(t,v) :: killL n r
theorem killL_lk (n : Nm) : ∀ fl : FL,(fun t=>killF n (lk' fl t)) = lk' (killL n fl)
  | []=>by funext t;rfl
  | (s,v) :: r=>by
    funext t
    have ih:=congrFun (killL_lk n r) t
    have key : killF n (lk' ((s,v) :: r) t) = lk' ((s,killF n v) :: killL n r) t:=by
      simp only [lk',lkO] at ih ⊢
      cases Nat.beq s t with
      | true=>rfl
      | false=>exact ih
    cases v <;> exact key

abbrev srcE (S : Store) (x : AVal) (k : IntKind) (Y : List Int) : Prop:=srcR S x 1 (ir k Y)
theorem ir_one {k : IntKind} {L : List Int} : ∀ c ∈ ir k L,c.length = 1:=fun c hc=>by obtain ⟨y,-,rfl⟩:=List.mem_map.1 hc;rfl
theorem srcE_win {e : TypeId} {m : Nm} {k : IntKind} {L : List Int} {off len cm : Nat} (hm : lkS sl m = some (.ints e k L)) (h : off + len ≤ L.length) : srcE (ov sl S) (.c (.win m off len cm)) k ((L.drop off).take len) :=
  ⟨ir_one,by rw [List.length_map,List.length_take,List.length_drop];omega,e,.inl ⟨k,L,ov_of hm,rfl,h,rfl⟩⟩
theorem srcE_ints {k : IntKind} {L : List Int} : srcE S (.c (.ints k L)) k L:=⟨rfl,rfl⟩
theorem srcE_held {w : World} {ρ : Nm→Nat} {S : Store} (he : EnvS w ρ S) {x : AVal} {u : Value} {k : IntKind} {Y : List Int} (hx : VS w ρ S x u) (h : srcE S x k Y) :
    (Y = []∧∃ A c,u = .slice A 0 c) ∨ (Y ≠ []∧∃ b off c,u = .slice (some ⟨b,off,none⟩) Y.length c∧∀ (j : Nat) u',(Y.map (Value.int k))[j]? = some u'→w.cell? ⟨b,off + j,none⟩ = some u'):=by
  rcases srcR_held he (by decide) hx h with ⟨h1,h2⟩ | ⟨h1,b,off,c,news,rfl,hnews,hcell⟩
  · exact .inl ⟨by simpa using h1,h2⟩
  · have e : (ir k Y).length = Y.length:=List.length_map ..
    rw [flat_ir] at hnews
    have hnews' : news = Y.map (Value.int k):=by
      apply List.ext_getElem?
      intro j
      rcases Nat.lt_or_ge j Y.length with g | g
      · obtain ⟨u,p1,-,p3⟩:=hnews.2 j (.sc (.int k Y[j])) (by simp [intsOf])
        have : u = .int k Y[j]:=p3
        rw [p1,this,List.getElem?_map,List.getElem?_eq_getElem g];rfl
      · rw [List.getElem?_eq_none (by rw [← hnews.1];simpa [intsOf] using g),List.getElem?_eq_none (by simpa using g)]
    subst hnews'
    exact .inr ⟨by intro e;exact h1 (by rw [e];rfl),b,off,c,by rw [e],hcell⟩

def zlen (z : Value) (n : Nat) : Bool:=Nat.beq z.cells.size n

theorem stp_appG (hT : TOk P T) {s x : Operand} {tys : Array TypeId} {t e : TypeId} {as : Array Operand} {m : Nm} {sz n0 : Nat} {L Y : List (List Cell)} {xv : AVal} {z : Value} (ha : as.toList = [s,x]) (ht : tys.toList = [t,t]) (hu : undT T t = some (.slice e)) (hc1 : celT T e = sz) (hsz : 0 < sz)
    (hz : zerT T e = some z) (hzl : zlen z sz = true) (hs : opO fl s = some (.accv m n0)) (hx : opO fl x = some xv) (hm : lkS sl m = some (.acc e sz L)) (hn : L.length = n0) (ho : m.isOut = false) (hY : srcR (ov sl S) xv sz Y)
    {nb : Nat} (hb : bytT T e = some nb) (hl : (L.length + Y.length) * nb ≤ 140737488355328∧L.length + Y.length ≤ maxLen) (kk : K ⟨lk' ((d,.accv m (n0 + Y.length)) :: killL m fl),ov ((m,.acc e sz (L ++ Y)) :: sl) S⟩) :
    Stp P mu ops ⟨some d,.call ⟨.builtin .append,as,tys⟩,ty,pos,after,none⟩ ⟨lk' fl,ov sl S⟩ K:=by
  refine ⟨⟨putF (fun t=>killF m (lk' fl t)) (some d) (.accv m (n0 + Y.length)),upd (ov sl S) m (.acc e sz (L ++ Y))⟩,?_,by rw [killL_lk,putF_lk,upd_ov];exact kk⟩
  refine .inl ⟨d,.accv m (n0 + Y.length),m,_,rfl,rfl,?_,rfl⟩
  simp only [appE,ha,ht]
  have hb:=hT.byt hb
  refine ⟨trivial,e,sz,Y,z,hT.und hu,hT.cel hc1 (by omega),hsz,hT.zer hz,Nat.eq_of_beq_eq_true hzl,by rw [opO_look hx];exact hY,?_⟩
  rw [opO_look hs]
  exact ⟨rfl,rfl,L,hn,ov_of hm,by rw [hb];exact hl.1,hl.2,rfl,ho⟩

theorem stp_appG0 (hT : TOk P T) {s x : Operand} {tys : Array TypeId} {t e : TypeId} {as : Array Operand} {sz : Nat} {Y : List (List Cell)} {xv : AVal} {z : Value} (ha : as.toList = [s,x]) (ht : tys.toList = [t,t]) (hu : undT T t = some (.slice e)) (hc1 : celT T e = sz) (hsz : 0 < sz)
    (hz : zerT T e = some z) (hzl : zlen z sz = true) (hs : opO fl s = some nils) (hx : opO fl x = some xv) (hf : freeO sl d = true) (hY : srcR (ov sl (pushS S)) xv sz Y)
    {nb : Nat} (hb : bytT T e = some nb) (hl : Y.length * nb ≤ 140737488355328∧Y.length ≤ maxLen) (kk : K ⟨lk' ((d,.accv (.loc d) Y.length) :: killL (.loc d) fl),ov ((.loc d,.acc e sz Y) :: sl) (pushS S)⟩) :
    Stp P mu ops ⟨some d,.call ⟨.builtin .append,as,tys⟩,ty,pos,after,none⟩ ⟨lk' fl,ov sl (pushS S)⟩ K:=by
  refine ⟨⟨putF (fun t=>killF (.loc d) (lk' fl t)) (some d) (.accv (.loc d) Y.length),upd (ov sl (pushS S)) (.loc d) (.acc e sz Y)⟩,?_,by rw [killL_lk,putF_lk,upd_ov];exact kk⟩
  refine .inl ⟨d,.accv (.loc d) Y.length,.loc d,_,rfl,rfl,?_,rfl⟩
  simp only [appE,ha,ht]
  have hb:=hT.byt hb
  refine ⟨trivial,e,sz,Y,z,hT.und hu,hT.cel hc1 (by omega),hsz,hT.zer hz,Nat.eq_of_beq_eq_true hzl,by rw [opO_look hx];exact hY,?_⟩
  rw [opO_look hs]
  exact ⟨rfl,trivial,freeO_spec hf,by rw [hb];exact hl.1,hl.2,rfl⟩

theorem stp_app (hT : TOk P T) {s x : Operand} {tys : Array TypeId} {t e : TypeId} {as : Array Operand} {m : Nm} {n0 : Nat} {k : IntKind} {L Y : List Int} {xv : AVal} (ha : as.toList = [s,x]) (ht : tys.toList = [t,t]) (hu : undT T t = some (.slice e)) (hc1 : celT T e = 1)
    (hz : zerT T e = some (.int k 0)) (hs : opO fl s = some (.accv m n0)) (hx : opO fl x = some xv) (hm : lkS sl m = some (.accI e k L)) (hn : L.length = n0) (ho : m.isOut = false) (hY : srcE (ov sl S) xv k Y)
    {nb : Nat} (hb : bytT T e = some nb) (hl : (L.length + Y.length) * nb ≤ 140737488355328∧L.length + Y.length ≤ maxLen) (kk : K ⟨lk' ((d,.accv m (n0 + Y.length)) :: killL m fl),ov ((m,.accI e k (L ++ Y)) :: sl) S⟩) :
    Stp P mu ops ⟨some d,.call ⟨.builtin .append,as,tys⟩,ty,pos,after,none⟩ ⟨lk' fl,ov sl S⟩ K:=by
  have e1 : ir k (L ++ Y) = ir k L ++ ir k Y:=List.map_append ..
  have e2 : (ir k L).length = L.length:=List.length_map ..
  have e3 : (ir k Y).length = Y.length:=List.length_map ..
  refine stp_appG hT ha ht hu hc1 (by decide) hz rfl hs hx hm (by rw [e2];exact hn) ho hY hb (by rw [e2,e3];exact hl) ?_
  rw [e3,← e1];exact kk

theorem stp_app0 (hT : TOk P T) {s x : Operand} {tys : Array TypeId} {t e : TypeId} {as : Array Operand} {k : IntKind} {Y : List Int} {xv : AVal} (ha : as.toList = [s,x]) (ht : tys.toList = [t,t]) (hu : undT T t = some (.slice e)) (hc1 : celT T e = 1)
    (hz : zerT T e = some (.int k 0)) (hs : opO fl s = some nils) (hx : opO fl x = some xv) (hf : freeO sl d = true) (hY : srcE (ov sl (pushS S)) xv k Y)
    {nb : Nat} (hb : bytT T e = some nb) (hl : Y.length * nb ≤ 140737488355328∧Y.length ≤ maxLen) (kk : K ⟨lk' ((d,.accv (.loc d) Y.length) :: killL (.loc d) fl),ov ((.loc d,.accI e k Y) :: sl) (pushS S)⟩) :
    Stp P mu ops ⟨some d,.call ⟨.builtin .append,as,tys⟩,ty,pos,after,none⟩ ⟨lk' fl,ov sl (pushS S)⟩ K:=by
  have e3 : (ir k Y).length = Y.length:=List.length_map ..
  refine stp_appG0 hT ha ht hu hc1 (by decide) hz rfl hs hx hf hY hb (by rw [e3];exact hl) ?_
  rw [e3];exact kk

theorem stp_appR (hT : TOk P T) {s x : Operand} {tys : Array TypeId} {t e : TypeId} {as : Array Operand} {m : Nm} {k : IntKind} {L Y : List Int} {len cm : Nat} {xv : AVal} (ha : as.toList = [s,x]) (ht : tys.toList = [t,t]) (hu : undT T t = some (.slice e)) (hc1 : celT T e = 1)
    (hz : zerT T e = some (.int k 0)) (hs : opO fl s = some (.c (.win m 0 len cm))) (hx : opO fl x = some xv) (hm : lkS sl m = some (.ints e k L)) (hY : srcE (ov sl S) xv k Y)
    (hl : len + Y.length ≤ cm∧len + Y.length ≤ L.length) (kk : K ⟨lk' ((d,.c (.win m 0 (len + Y.length) cm)) :: killL m fl),ov ((m,.ints e k (L.take len ++ Y ++ L.drop (len + Y.length))) :: sl) S⟩) :
    Stp P mu ops ⟨some d,.call ⟨.builtin .append,as,tys⟩,ty,pos,after,none⟩ ⟨lk' fl,ov sl S⟩ K:=by
  refine ⟨⟨putF (fun t=>killF m (lk' fl t)) (some d) (.c (.win m 0 (len + Y.length) cm)),upd (ov sl S) m (.ints e k (L.take len ++ Y ++ L.drop (len + Y.length)))⟩,?_,by rw [killL_lk,putF_lk,upd_ov];exact kk⟩
  refine .inl ⟨d,.c (.win m 0 (len + Y.length) cm),m,_,rfl,rfl,?_,rfl⟩
  simp only [appE,ha,ht]
  refine ⟨trivial,e,1,ir k Y,_,hT.und hu,hT.cel hc1 (by simp),by decide,hT.zer hz,rfl,by rw [opO_look hx];exact hY,?_⟩
  rw [opO_look hs]
  have e3 : (ir k Y).length = Y.length:=List.length_map ..
  exact ⟨rfl,by rw [e3];exact hl.1,by rw [e3],.inl ⟨k,L,Y,ov_of hm,rfl,rfl,rfl,by rw [e3];exact hl.2,rfl⟩⟩

/-! ### In the midst of a region -/
def aw (P : Program) (_mu : FuncId→Bool) (N : Nat) (ops : Array Oper) (Q : Exit→St→Prop) (l : List Oper) (st : St) : Prop :=
  (∀ o ∈ l,∀ t,o.dst = some t→t < N)→∀ (B : Base) (w : World) (ρ : Nm→Nat) (a : Act),a.defers = []→a.tmps.size = N→Inv B w ρ st a.tmps→wpList P ops (Ends B N Q) l a w

variable {Q : Exit→St→Prop} {st F : St}

theorem aw_nil (h : Q .normal st) : aw P mu N ops Q [] st:=fun _ _ _ ρ _ hd hn hi=>⟨hd,hn,st,ρ,hi,h⟩
theorem aw_cons {o : Oper} {l : List Oper} (h : Stp P mu ops o st (aw P mu N ops Q l)) : aw P mu N ops Q (o :: l) st:=fun hb B w ρ a hd hn hi=>by
  obtain ⟨st',hs,h⟩:=h
  refine wpList_step fun K hK=>?_
  refine aStep_sound hi.sim (fun t ht=>by rw [hn];exact hb o (by simp) t ht) hs (fun w' ρ' u X h1 h2 h3=>?_)
  exact hK _ _ (h (fun o ho=>hb o (by simp [ho])) B w' ρ' _ (by rw [put_defers];exact hd) (by rw [put_size];exact hn) (hi.step h1 h2 h3))
theorem aw_weak {l : List Oper} (F : St) (hw : Weak st F) (h : aw P mu N ops Q l F) : aw P mu N ops Q l st:=fun hb B w ρ a hd hn hi=>by
  obtain ⟨ρ',hi'⟩:=hi.weak hw
  exact h hb B w ρ' a hd hn hi'
theorem awp_reg {id : Nat} (h : aw P mu N ops Q ops.toList st) : awp P mu N (.region id ops false) Q st:=fun hm hok B w ρ a hd hn hi=>by
  simp only [okC,Bool.and_eq_true,List.all_eq_true] at hok
  have hb : ∀ o ∈ ops.toList,∀ t,o.dst = some t→t < N:=fun o ho t ht=>by
    have:=hok.1 o ho
    rw [ht] at this
    simpa using this
  exact wp_region_list (h hb B w ρ a hd hn hi)
theorem awp_draw {id : Nat} (h : aOps P mu ops ops.toList (Q .normal) st) (hl : (ne4 ops.toList || lexOK mu ops) = true) : awp P mu N (.region id ops true) Q st:=awp_region h fun _=>hl
/-! ### Codes -/
theorem thenA_n {K : St→Prop} (h : K st) : thenA K Q .normal st:=h
theorem blockA_n {id : Nat} (h : Q .normal st) : blockA id Q .normal st:=h
theorem blockA_hit {id id' : Nat} (e : Nat.beq id' id = true) (h : Q .normal st) : blockA id Q (.exit id') st:=by
  have:=Nat.eq_of_beq_eq_true e
  simp only [blockA,if_pos this];exact h
theorem blockA_miss {id id' : Nat} (e : Nat.beq id' id = false) (h : Q (.exit id') st) : blockA id Q (.exit id') st:=by
  have : ¬ id' = id:=fun q=>by subst q;simp [Nat.beq_refl] at e
  simp only [blockA,if_neg this];exact h
theorem awp_ifT {c : Operand} {x y : Code} {S' : Store} (hc : opO fl c = some (bvl true)) (h : awp P mu N x Q ⟨lk' fl,S'⟩) : awp P mu N (.cond c x y) Q ⟨lk' fl,S'⟩ :=
  awp_cond (t:=true) (opO_look hc) (fun _=>h) (fun e=>by cases e)
theorem awp_ifF {c : Operand} {x y : Code} {S' : Store} (hc : opO fl c = some (bvl false)) (h : awp P mu N y Q ⟨lk' fl,S'⟩) : awp P mu N (.cond c x y) Q ⟨lk' fl,S'⟩ :=
  awp_cond (t:=false) (opO_look hc) (fun e=>by cases e) (fun _=>h)
theorem awp_if {c : Operand} {x y : Code} {S' : Store} {t : Bool} (hc : opO fl c = some (bvl t)) (h1 : t = true→awp P mu N x Q ⟨lk' fl,S'⟩) (h2 : t = false→awp P mu N y Q ⟨lk' fl,S'⟩) : awp P mu N (.cond c x y) Q ⟨lk' fl,S'⟩ :=
  awp_cond (opO_look hc) h1 h2

theorem awp_mid {c : Code} (Mid : St→Prop) (h : awp P mu N c (thenA Mid Q) st) (hk : ∀ st,Mid st→K st) : awp P mu N c (thenA K Q) st :=
  awp_mono h fun e st' hh=>by cases e <;> first | exact hk _ hh | exact hh

theorem awp_midB {c : Code} {id : Nat} (Mid : St→Prop) (h : awp P mu N c (blockA id (thenA Mid Q)) st) (hk : ∀ st,Mid st→K st) : awp P mu N c (blockA id (thenA K Q)) st :=
  awp_mono h fun e st' hh=>by
    cases e with
    | normal=>exact hk _ hh
    | exit i =>
      simp only [blockA] at hh ⊢
      split
      · rename_i e;rw [if_pos e] at hh;exact hk _ hh
      · rename_i e;rw [if_neg e] at hh;exact hh
    | _=>exact hh

theorem awp_rep {c : Code} {ι : Type} (F : ι→St) (J : ι→Prop) (μ : ι→Nat) (i0 : ι) (hj : J i0) (h0 : Weak st (F i0))
    (hr : ∀ i,J i→awp P mu N c (thenA (fun st'=>∃ i',Weak st' (F i')∧J i'∧μ i' < μ i) Q) (F i)) : awp P mu N (.loop c) Q st:=by
  refine awp_loop (ι:={ i : ι // J i }) (fun i=>F i.1) (fun i=>μ i.1) ⟨i0,hj⟩ h0 (fun i=>awp_mono (hr i.1 i.2) ?_)
  rintro e st' h
  cases e with
  | normal=>obtain ⟨i',h1,h2,h3⟩:=h;exact ⟨⟨i',h2⟩,h1,h3⟩
  | _=>exact h
theorem awp_rep2 {c : Code} {α β : Type} (F : α→β→St) (J : α→β→Prop) (μ : α→β→Nat) (a0 : α) (b0 : β) (hj : J a0 b0) (h0 : Weak st (F a0 b0))
    (hr : ∀ a b,J a b→awp P mu N c (thenA (fun st'=>∃ a' b',Weak st' (F a' b')∧J a' b'∧μ a' b' < μ a b) Q) (F a b)) : awp P mu N (.loop c) Q st :=
  awp_rep (ι:=α × β) (fun x=>F x.1 x.2) (fun x=>J x.1 x.2) (fun x=>μ x.1 x.2) (a0,b0) hj h0 fun x hx =>
    awp_mid _ (hr x.1 x.2 hx) fun _ ⟨a',b',h⟩=>⟨(a',b'),h⟩
theorem awp_rep3 {c : Code} {α β γ : Type} (F : α→β→γ→St) (J : α→β→γ→Prop) (μ : α→β→γ→Nat) (a0 : α) (b0 : β) (c0 : γ) (hj : J a0 b0 c0) (h0 : Weak st (F a0 b0 c0))
    (hr : ∀ a b d,J a b d→awp P mu N c (thenA (fun st'=>∃ a' b' d',Weak st' (F a' b' d')∧J a' b' d'∧μ a' b' d' < μ a b d) Q) (F a b d)) : awp P mu N (.loop c) Q st :=
  awp_rep (ι:=α × β × γ) (fun x=>F x.1 x.2.1 x.2.2) (fun x=>J x.1 x.2.1 x.2.2) (fun x=>μ x.1 x.2.1 x.2.2) (a0,b0,c0) hj h0 fun x hx =>
    awp_mid _ (hr x.1 x.2.1 x.2.2 hx) fun _ ⟨a',b',d',h⟩=>⟨(a',b',d'),h⟩
theorem awp_rep4 {c : Code} {α β γ δ : Type} (F : α→β→γ→δ→St) (J : α→β→γ→δ→Prop) (μ : α→β→γ→δ→Nat) (a0 : α) (b0 : β) (c0 : γ) (d0 : δ) (hj : J a0 b0 c0 d0) (h0 : Weak st (F a0 b0 c0 d0))
    (hr : ∀ a b d e,J a b d e→awp P mu N c (thenA (fun st'=>∃ a' b' d' e',Weak st' (F a' b' d' e')∧J a' b' d' e'∧μ a' b' d' e' < μ a b d e) Q) (F a b d e)) : awp P mu N (.loop c) Q st :=
  awp_rep (ι:=α × β × γ × δ) (fun x=>F x.1 x.2.1 x.2.2.1 x.2.2.2) (fun x=>J x.1 x.2.1 x.2.2.1 x.2.2.2) (fun x=>μ x.1 x.2.1 x.2.2.1 x.2.2.2) (a0,b0,c0,d0) hj h0 fun x hx =>
    awp_mid _ (hr x.1 x.2.1 x.2.2.1 x.2.2.2 hx) fun _ ⟨a',b',d',e',h⟩=>⟨(a',b',d',e'),h⟩
end
end Go.Abs

/-
  What is no longer written is told as it stands; names dropped.
-/
namespace Go.Abs
open Go

theorem cls_map {φ : Nm→Nm} {o : AObj} {x : Cell} (h : x ∈ (o.map φ).cls) : ∃ y ∈ o.cls,x = y.map φ:=by
  cases o with
  | ints ty k L=>exact absurd h List.not_mem_nil
  | fix x=>exact absurd h List.not_mem_nil
  | row ty cs=>obtain ⟨y,hy,rfl⟩:=List.mem_map.1 h;exact ⟨y,hy,rfl⟩
  | cells ty cs=>obtain ⟨y,hy,rfl⟩:=List.mem_map.1 h;exact ⟨y,hy,rfl⟩
  | acc ty sz L =>
    obtain ⟨c,hc,hx⟩:=List.mem_flatten.1 h
    obtain ⟨c',hc',rfl⟩:=List.mem_map.1 hc
    obtain ⟨y,hy,rfl⟩:=List.mem_map.1 hx
    exact ⟨y,List.mem_flatten.2 ⟨c',hc',hy⟩,rfl⟩

inductive FrzC0 (A B : Store) : Cell→Cell→Prop
  | keep {x : Cell} (h : ∀ m,x.at m→B m ≠ none) : FrzC0 A B x x
  | nilI {k : IntKind} : FrzC0 A B (.sc (.slice none 0 0)) (.ints k [])
  | nilQ {sz : Nat} : FrzC0 A B (.sc (.slice none 0 0)) (.seq sz [])
  | junk {x : Cell} : FrzC0 A B x .junk
  | le {x y : Cell} (h : CLe x y) (h0 : ∀ m,¬ y.at m) : FrzC0 A B x y
  | win {m : Nm} {off len cm : Nat} {ty : TypeId} {k : IntKind} {L L' : List Int} (hm : A m = some (.ints ty k L)) (hb : B m = none) (hl : off + len ≤ L.length) (e : L' = (L.drop off).take len) : FrzC0 A B (.win m off len cm) (.ints k L')
  | winc {m : Nm} {off len cm : Nat} {ty : TypeId} {k : IntKind} {L L' : List Int} (hm : A m = some (.ints ty k L)) (hb : B m = none) (hl : off + cm ≤ L.length) (e : L' = (L.drop off).take cm) : FrzC0 A B (.win m off len cm) (.intc k L' len)
  | ptr {m : Nm} {off : Nat} {ty : TypeId} {cs : List Cell} {ls : List Leaf} (f : Nat→Cell) (hm : A m = some (.cells ty cs) ∨ A m = some (.row ty cs)) (hb : B m = none) (h1 : ∀ (j : Nat) l,ls[j]? = some l→cs[off + j]? = some (f j)) (h2 : ∀ (j : Nat) l,ls[j]? = some l→FrzC0 A B (f j) l.cell) : FrzC0 A B (.ptr m off) (.pim ls)
  | row {m : Nm} {off len cm sz : Nat} {ty : TypeId} {cs : List Cell} {L : List (List Leaf)} (f : Nat→Nat→Cell) (hm : A m = some (.cells ty cs) ∨ A m = some (.row ty cs)) (hb : B m = none) (hn : L.length = len) (hz : ∀ c ∈ L,c.length = sz)
      (h1 : ∀ (i : Nat) c (j : Nat) l,L[i]? = some c→c[j]? = some l→cs[off + (i * sz + j)]? = some (f i j)) (h2 : ∀ (i : Nat) c (j : Nat) l,L[i]? = some c→c[j]? = some l→FrzC0 A B (f i j) l.cell) : FrzC0 A B (.win m off len cm) (.seq sz L)
  | rowc {m : Nm} {off len cm sz : Nat} {ty : TypeId} {cs : List Cell} {L : List (List Leaf)} (f : Nat→Nat→Cell) (hm : A m = some (.cells ty cs) ∨ A m = some (.row ty cs)) (hb : B m = none) (hn : len ≤ L.length) (hc : L.length ≤ cm) (hz : ∀ c ∈ L,c.length = sz)
      (h1 : ∀ (i : Nat) c (j : Nat) l,L[i]? = some c→c[j]? = some l→cs[off + (i * sz + j)]? = some (f i j)) (h2 : ∀ (i : Nat) c (j : Nat) l,L[i]? = some c→c[j]? = some l→FrzC0 A B (f i j) l.cell) : FrzC0 A B (.win m off len cm) (.seqc sz L len)

inductive FrzC (A B : Store) : Cell→Cell→Prop
  | base {x y : Cell} (h : FrzC0 A B x y) : FrzC A B x y
theorem FrzC.c0 {A B : Store} {x y : Cell} (h : FrzC A B x y) : FrzC0 A B x y:=by cases h with | base h=>exact h

def FrzR (A B : Store) (R : List (List Cell)) (L : List (List Cell)) : Prop :=
  R.length = L.length∧∀ (i : Nat) c c',R[i]? = some c→L[i]? = some c'→c.length = c'.length∧∀ (j : Nat) x y,c[j]? = some x→c'[j]? = some y→FrzC0 A B x y

inductive FrzV (A B : Store) : AVal→AVal→Prop
  | c {x y : Cell} (h : FrzC A B x y) : FrzV A B (.c x) (.c y)
  | agg {xs ys : List Cell} (hl : xs.length = ys.length) (h : ∀ (i : Nat) (x y : Cell),xs[i]? = some x→ys[i]? = some y→FrzC A B x y) : FrzV A B (.agg xs) (.agg ys)
  | fn {f : FuncId} {xs ys : List Cell} (hl : xs.length = ys.length) (h : ∀ (i : Nat) (x y : Cell),xs[i]? = some x→ys[i]? = some y→FrzC A B x y) : FrzV A B (.fn f xs) (.fn f ys)
  | accK {m : Nm} {ty : TypeId} {sz n n' : Nat} {L L' : List (List Cell)} (h1 : A m = some (.acc ty sz L)) (h2 : B m = some (.acc ty sz L')) (hl : L'.length = L.length) (hn : n' = L.length) : FrzV A B (.accv m n) (.accv m n')
  | acc {m : Nm} {n sz : Nat} {ty : TypeId} {R : List (List Cell)} {L : List (List Leaf)} (hm : A m = some (.acc ty sz R)) (hb : B m = none) (h : FrzR A B R (L.map (·.map Leaf.cell))) : FrzV A B (.accv m n) (.c (.seq sz L))
  | accI {m : Nm} {n : Nat} {ty : TypeId} {k : IntKind} {L : List Int} (hm : A m = some (.accI ty k L)) (hb : B m = none) : FrzV A B (.accv m n) (.c (.ints k L))
  | accW {m : Nm} {n n' sz : Nat} {ty : TypeId} {R : List (List Cell)} {o : AObj} (hm : A m = some (.acc ty sz R)) (hne : R ≠ []) (hsz : 0 < sz) (hb : B m = some o) (ho : o.isAcc = false) (hn : n' = R.length) : FrzV A B (.accv m n) (.c (.win m 0 n' n'))
  | nilA {m : Nm} {ty : TypeId} {sz : Nat} (hb : B m = some (.acc ty sz [])) : FrzV A B (.c (.sc (.slice none 0 0))) (.accv m 0)

inductive FrzO (A B : Store) : AObj→AObj→Prop
  | ints {ty : TypeId} {k : IntKind} {L : List Int} : FrzO A B (.ints ty k L) (.ints ty k L)
  | acc {ty : TypeId} {sz : Nat} {L L' : List (List Cell)} (h : FrzR A B L L') : FrzO A B (.acc ty sz L) (.acc ty sz L')
  | fix {x : Obj} : FrzO A B (.fix x) (.fix x)
  | row {ty : TypeId} {xs ys : List Cell} (h : ∀ (i : Nat) (y : Cell),ys[i]? = some y→∃ x,xs[i]? = some x∧FrzC0 A B x y) : FrzO A B (.row ty xs) (.row ty ys)
  | cellsR {ty : TypeId} {xs ys : List Cell} (h : ∀ (i : Nat) (y : Cell),ys[i]? = some y→∃ x,xs[i]? = some x∧FrzC0 A B x y) : FrzO A B (.cells ty xs) (.row ty ys)
  | accC {ty : TypeId} {sz : Nat} {R R' : List (List Cell)} (hne : R ≠ []) (h : FrzR A B R R') : FrzO A B (.acc ty sz R) (.row ty R'.flatten)
  | cells {ty : TypeId} {xs ys : List Cell} (hl : xs.length = ys.length) (h : ∀ (i : Nat) (y : Cell),ys[i]? = some y→∃ x,xs[i]? = some x∧FrzC A B x y) : FrzO A B (.cells ty xs) (.cells ty ys)
  | accN {ty : TypeId} {k : IntKind} {L : List Int} (hne : L ≠ []) : FrzO A B (.accI ty k L) (.ints ty k L)
  | cellsN {ty : TypeId} {k : IntKind} {L : List Int} : FrzO A B (.cells ty (intsOf k L)) (.ints ty k L)

theorem AObj.acc_real {ty : TypeId} {sz : Nat} {R : List (List Cell)} (h : R ≠ []) : (AObj.acc ty sz R).real = true:=by cases R <;> first | exact absurd rfl h | rfl
theorem FrzO.real {A B : Store} {o o' : AObj} (h : FrzO A B o o') : o.real = o'.real:=by
  cases h with
  | acc h =>
    rename_i ty sz L L'
    have:=h.1
    cases L <;> cases L' <;> first | rfl | (simp at this)
  | accC hne h=>rw [AObj.acc_real hne];rfl
  | accN hne=>rw [AObj.acc_real (by intro e;exact hne (by simpa using e))];rfl
  | _=>rfl

theorem FrzO.keep {A B : Store} {o : AObj} (h : ∀ x ∈ o.cls,∀ m,x.at m→B m ≠ none) : FrzO A B o o:=by
  cases o with
  | ints ty k L=>exact .ints
  | acc ty sz L =>
    refine .acc ⟨rfl,fun i c c' hi hi'=>?_⟩
    rw [hi] at hi';obtain rfl:=Option.some.inj hi'
    refine ⟨rfl,fun j x y hj hj'=>?_⟩
    rw [hj] at hj';obtain rfl:=Option.some.inj hj'
    exact .keep fun m hm'=>h x (List.mem_flatten.2 ⟨c,List.mem_of_getElem? hi,List.mem_of_getElem? hj⟩) m hm'
  | fix x=>exact .fix
  | row ty cs=>exact .row fun i y hy=>⟨y,hy,.keep fun m hm'=>h y (List.mem_of_getElem? hy) m hm'⟩
  | cells ty cs=>exact .cells rfl fun i y hy=>⟨y,hy,.base (.keep fun m hm'=>h y (List.mem_of_getElem? hy) m hm')⟩

section
variable {w : World} {ρ : Nm→Nat} {A B : Store} {st F : St}

def Sub (A B : Store) : Prop:=∀ m o',B m = some o'→(∃ o,A m = some o∧FrzO A B o o') ∨ ((∀ o,A m = some o→o.isAcc = true)∧∃ ty sz,o' = .acc ty sz [])

theorem IntsS.mono {G H : Nat→Prop} (h : ∀ b,G b→H b) {k : IntKind} {L : List Int} {n : Nat} {v : Value} (hv : IntsS w G k L n v) : IntsS w H k L n v:=hv.imp fun b hb=>⟨h b hb,fun _=>rfl⟩
theorem LeafS.mono {G H : Nat→Prop} (h : ∀ b,G b→H b) {x : Leaf} {v : Value} (hv : LeafS w G x v) : LeafS w H x v:=hv.imp fun b hb=>⟨h b hb,fun _=>rfl⟩

theorem Sub.fr (h : Sub A B) {b : Nat} (hb : Fr w ρ A b) : Fr w ρ B b:=⟨hb.1,fun m o hm hr=>by
  rcases h m o hm with ⟨o',h1,h2⟩ | ⟨hna,ty,k,rfl⟩
  · exact hb.2 m o' h1 (by rw [h2.real];exact hr)
  · cases hr⟩

theorem Sub.gone (h : Sub A B) (he : EnvS w ρ A) {m : Nm} {o : AObj} (hm : A m = some o) (hr : o.real = true) (hb : B m = none) : Fr w ρ B (ρ m) :=
  ⟨he.lt hm hr,fun m' o' hm' hr' e=>by
    rcases h m' o' hm' with ⟨o1,h1,h2⟩ | ⟨hna,ty,k,rfl⟩
    · have:=he.inj m' m o1 o h1 hm (by rw [h2.real];exact hr') hr e
      subst this
      rw [hb] at hm';cases hm'
    · cases hr'⟩

theorem Sub.kp (hs : Sub A B) {m : Nm} {o : AObj} (ho : A m = some o) (ha : o.isAcc = false) (hb : B m ≠ none) : ∃ o',B m = some o'∧o'.isAcc = false:=by
  cases e : B m with
  | none=>exact absurd e hb
  | some o' =>
    rcases hs m o' e with ⟨o1,h1,h3⟩ | ⟨hna,ty,k,rfl⟩
    · rw [ho] at h1;obtain rfl:=Option.some.inj h1
      exact ⟨o',rfl,by cases h3 <;> first | rfl | exact ha⟩
    · rw [hna o ho] at ha;cases ha

theorem rc_obj (he : EnvS w ρ A) {m : Nm} {ty : TypeId} {cs : List Cell} (hm : A m = some (.cells ty cs) ∨ A m = some (.row ty cs)) :
    ∃ vs,w.heap[ρ m]? = some (.cells vs ty (0,0))∧∀ (i : Nat) (x : Cell),cs[i]? = some x→∃ u,vs[i]? = some u∧u.oneCell' = true∧CellS w ρ A x u:=by
  rcases hm with hm | hm
  · obtain ⟨vs,q1,-,q2⟩:=he.obj m _ hm;exact ⟨vs,q1,q2⟩
  · exact he.obj m _ hm

theorem leaf_of_cell {l : Leaf} {u : Value} (h : CellS w ρ B l.cell u) (ho : u.oneCell' = true) : LeafS w (Fr w ρ B) l u:=by
  cases l with
  | sc v=>have e : u = v:=h;subst e;exact .sc ho
  | ints k L=>exact .ints h
  | intc k L n=>exact .intc h
  | pim cs=>exact leafS_pim h
  | seq sz L=>exact leafS_seq h
  | seqc sz L n=>exact leafS_seqc h
  | fx x=>exact .fx h

structure Seen (w : World) (ρ : Nm→Nat) (A B : Store) : Prop where
  fr : ∀ {b : Nat},Fr w ρ A b→Fr w ρ B b
  gone : ∀ {m : Nm} {o : AObj},A m = some o→o.real = true→B m = none→Fr w ρ B (ρ m)
  kp : ∀ {m : Nm} {o : AObj},A m = some o→o.isAcc = false→B m ≠ none→∃ o',B m = some o'∧o'.isAcc = false
theorem Sub.seen (h : Sub A B) (he : EnvS w ρ A) : Seen w ρ A B:=⟨h.fr,fun a b c=>h.gone he a b c,fun a b c=>h.kp a b c⟩

theorem cell_mono (hs : Seen w ρ A B) {y : Cell} {u : Value} (h0 : ∀ m,¬ y.at m) (hx : CellS w ρ A y u) : CellS w ρ B y u:=by
  cases y with
  | sc v=>exact hx
  | ints k L=>exact IntsS.mono (fun b=>hs.fr) hx
  | intc k L n=>exact IntsS.mono (fun b=>hs.fr) hx
  | seq sz L=>exact SeqS.imp (fun b hb=>⟨hs.fr hb,fun _=>rfl⟩) hx
  | seqc sz L n=>exact SeqS.imp (fun b hb=>⟨hs.fr hb,fun _=>rfl⟩) hx
  | win m off len cm=>exact absurd rfl (h0 m)
  | ptr m off=>exact absurd rfl (h0 m)
  | pim cs=>exact PimS.imp (fun b hb=>⟨hs.fr hb,fun _=>rfl⟩) hx
  | fx x=>exact hx
  | junk=>trivial

theorem FrzC0.heldS (hs : Seen w ρ A B) (he : EnvS w ρ A) {x y : Cell} (h : FrzC0 A B x y) : ∀ {u : Value},CellS w ρ A x u→CellS w ρ B y u:=by
  induction h with
  | keep h =>
    rename_i x
    intro u hx
    cases x with
    | win m off len cm =>
      obtain ⟨⟨o,ho,ha⟩,h2⟩:=hx
      exact ⟨hs.kp ho ha (h m rfl),h2⟩
    | ptr m off =>
      obtain ⟨⟨o,ho,ha⟩,h2⟩:=hx
      exact ⟨hs.kp ho ha (h m rfl),h2⟩
    | sc v=>exact cell_mono hs (fun _ h=>h.elim) hx
    | ints k L=>exact cell_mono hs (fun _ h=>h.elim) hx
    | intc k L n=>exact cell_mono hs (fun _ h=>h.elim) hx
    | seq sz L=>exact cell_mono hs (fun _ h=>h.elim) hx
    | seqc sz L n=>exact cell_mono hs (fun _ h=>h.elim) hx
    | pim cs=>exact cell_mono hs (fun _ h=>h.elim) hx
    | fx x=>exact hx
    | junk=>trivial
  | nilI=>intro u hx;exact ⟨none,0,hx,Nat.le_refl _,Nat.le_refl _,fun h=>by simp at h⟩
  | nilQ=>intro u hx;exact ⟨none,0,hx,Nat.le_refl _,Nat.le_refl _,fun c hc=>by simp at hc,fun h=>by simp at h⟩
  | junk=>intro u hx;trivial
  | le h h0=>intro u hx;exact cell_mono hs h0 (h.held hx)
  | win hm hb hl e =>
    intro u hx
    rename_i m off len cm ty k L L'
    obtain ⟨-,C,cap,rfl,h1,h2,h3⟩:=hx
    have hlen : L'.length = len:=by rw [e];simp;omega
    refine ⟨C,cap,by rw [hlen],Nat.le_refl _,by omega,fun hp=>?_⟩
    obtain ⟨e1,-⟩:=h3 (by omega)
    refine ⟨ρ m,off,e1,hs.gone hm rfl hb,fun i x hi=>?_⟩
    obtain ⟨vs,q1,q2⟩:=he.obj m _ hm
    have hi' : L[off + i]? = some x:=by
      rw [e] at hi
      rcases Nat.lt_or_ge i len with q | q
      · rw [List.getElem?_take_of_lt q,List.getElem?_drop] at hi;exact hi
      · rw [List.getElem?_eq_none (by simp;omega)] at hi;cases hi
    rw [cell_of_heap q1]
    exact q2 _ _ hi'
  | winc hm hb hl e =>
    intro u hx
    rename_i m off len cm ty k L L'
    obtain ⟨-,C,cap,rfl,h1,h2,h3⟩:=hx
    have hlen : L'.length = cm:=by rw [e];simp;omega
    refine ⟨C,cap,rfl,by omega,by omega,fun hp=>?_⟩
    obtain ⟨e1,-⟩:=h3 (by omega)
    refine ⟨ρ m,off,e1,hs.gone hm rfl hb,fun i x hi=>?_⟩
    obtain ⟨vs,q1,q2⟩:=he.obj m _ hm
    have hi' : L[off + i]? = some x:=by
      rw [e] at hi
      rcases Nat.lt_or_ge i cm with q | q
      · rw [List.getElem?_take_of_lt q,List.getElem?_drop] at hi;exact hi
      · rw [List.getElem?_eq_none (by simp;omega)] at hi;cases hi
    rw [cell_of_heap q1]
    exact q2 _ _ hi'
  | ptr f hm hb h1 h2 ih =>
    intro u hx
    rename_i m off ty cs ls
    obtain ⟨-,rfl⟩:=hx
    refine ⟨ρ m,off,rfl,(hm.elim (fun h=>hs.gone h rfl hb) (fun h=>hs.gone h rfl hb)),fun j l hj=>?_⟩
    obtain ⟨vs,q1,q2⟩:=rc_obj he hm
    obtain ⟨u,q3,q4,q5⟩:=q2 _ _ (h1 j l hj)
    exact ⟨u,by rw [cell_of_heap q1];exact q3,leaf_of_cell (ih j l hj q5) q4⟩
  | row f hm hb hn hz h1 h2 ih =>
    intro u hx
    rename_i m off len cm sz ty cs L
    obtain ⟨-,C,cap,rfl,g1,g2,g3⟩:=hx
    refine ⟨C,cap,by rw [hn],Nat.le_refl _,by omega,hz,fun hp=>?_⟩
    obtain ⟨e1,-⟩:=g3 (by omega)
    refine ⟨ρ m,off,e1,(hm.elim (fun h=>hs.gone h rfl hb) (fun h=>hs.gone h rfl hb)),fun i c j l hi hj=>?_⟩
    obtain ⟨vs,q1,q2⟩:=rc_obj he hm
    obtain ⟨u,q3,q4,q5⟩:=q2 _ _ (h1 i c j l hi hj)
    exact ⟨u,by rw [cell_of_heap q1];exact q3,leaf_of_cell (ih i c j l hi hj q5) q4⟩
  | rowc f hm hb hn hc hz h1 h2 ih =>
    intro u hx
    rename_i m off len cm sz ty cs L
    obtain ⟨-,C,cap,rfl,g1,g2,g3⟩:=hx
    refine ⟨C,cap,rfl,hn,by omega,hz,fun hp=>?_⟩
    obtain ⟨e1,-⟩:=g3 (by omega)
    refine ⟨ρ m,off,e1,(hm.elim (fun h=>hs.gone h rfl hb) (fun h=>hs.gone h rfl hb)),fun i c j l hi hj=>?_⟩
    obtain ⟨vs,q1,q2⟩:=rc_obj he hm
    obtain ⟨u,q3,q4,q5⟩:=q2 _ _ (h1 i c j l hi hj)
    exact ⟨u,by rw [cell_of_heap q1];exact q3,leaf_of_cell (ih i c j l hi hj q5) q4⟩

theorem FrzC0.held (hs : Sub A B) (he : EnvS w ρ A) {x y : Cell} (h : FrzC0 A B x y) {u : Value} (hx : CellS w ρ A x u) : CellS w ρ B y u:=h.heldS (hs.seen he) he hx
theorem FrzC.held (hs : Sub A B) (he : EnvS w ρ A) {x y : Cell} {u : Value} (h : FrzC A B x y) (hx : CellS w ρ A x u) : CellS w ρ B y u:=h.c0.held hs he hx

theorem frz_cells (hs : Sub A B) (he : EnvS w ρ A) {xs ys : List Cell} {vs : List Value} (hl : xs.length = ys.length) (h : ∀ (i : Nat) (x y : Cell),xs[i]? = some x→ys[i]? = some y→FrzC A B x y) (hx : CellsS w ρ A xs vs) : CellsS w ρ B ys vs:=by
  obtain ⟨h1,h2⟩:=hx
  refine ⟨by omega,fun i y hy=>?_⟩
  have hlt : i < xs.length:=by
    rcases Nat.lt_or_ge i ys.length with q | q
    · omega
    · rw [List.getElem?_eq_none q] at hy;cases hy
  obtain ⟨u,p1,p2,p3⟩:=h2 i _ (List.getElem?_eq_getElem hlt)
  exact ⟨u,p1,p2,(h i _ y (List.getElem?_eq_getElem hlt) hy).held hs he p3⟩

theorem FrzR.held (hs : Sub A B) (he : EnvS w ρ A) {b sz : Nat} {ty : TypeId} {R L : List (List Cell)} (h : FrzR A B R L) (hx : RowsS w ρ A b ty sz R) : RowsS w ρ B b ty sz L:=by
  obtain ⟨vs,q1,q2,q3⟩:=hx
  have hR : ∀ (i : Nat) (c' : List Cell),L[i]? = some c'→∃ c,R[i]? = some c:=by
    intro i c' hi
    have hlt:=(List.getElem?_eq_some_iff.1 hi).1
    exact ⟨_,List.getElem?_eq_getElem (by rw [h.1];exact hlt)⟩
  refine ⟨vs,q1,fun c' hc=>?_,fun i c' j y hi hj=>?_⟩
  · obtain ⟨i,hi,rfl⟩:=List.getElem_of_mem hc
    obtain ⟨c,hR1⟩:=hR i _ (List.getElem?_eq_getElem hi)
    rw [← (h.2 i c _ hR1 (List.getElem?_eq_getElem hi)).1]
    exact q2 c (List.mem_of_getElem? hR1)
  · obtain ⟨c,hR1⟩:=hR i _ hi
    obtain ⟨g1,g2⟩:=h.2 i c _ hR1 hi
    have hjl:=(List.getElem?_eq_some_iff.1 hj).1
    obtain ⟨u,p1,p2,p3⟩:=q3 i c j _ hR1 (List.getElem?_eq_getElem (by omega))
    exact ⟨u,p1,p2,(g2 j _ y (List.getElem?_eq_getElem (by omega)) hj).held hs he p3⟩

theorem rows_ints {b : Nat} {ty : TypeId} {k : IntKind} {L : List Int} {S : Store} (h : RowsS w ρ S b ty 1 (ir k L)) : RowS w b ty k L:=by
  obtain ⟨vs,q1,-,q3⟩:=h
  refine ⟨vs,q1,fun i x hi=>?_⟩
  obtain ⟨u,p1,-,p3⟩:=q3 i [.sc (.int k x)] 0 _ (by simp [hi]) rfl
  have e : u = .int k x:=p3
  rw [← e];simpa using p1

theorem FrzV.held (hs : Sub A B) (he : EnvS w ρ A) {x y : AVal} {u : Value} (h : FrzV A B x y) (hx : VS w ρ A x u) : VS w ρ B y u:=by
  cases h with
  | c h=>exact h.held hs he hx
  | agg hl h=>obtain ⟨vs,rfl,hx⟩:=hx;exact ⟨vs,rfl,frz_cells hs he hl h hx⟩
  | fn hl h=>obtain ⟨vs,rfl,hx⟩:=hx;exact ⟨vs,rfl,frz_cells hs he hl h hx⟩
  | accK h1 h2 hl hn =>
    rename_i m ty sz n n' L L'
    obtain ⟨ty',k,L2,ho,hn2,h⟩:=hx
    rw [h1] at ho
    simp only [Option.some.injEq,AObj.acc.injEq] at ho
    obtain ⟨rfl,rfl,rfl⟩:=ho
    refine ⟨ty,sz,L',h2,by omega,?_⟩
    rcases h with ⟨rfl,hA⟩ | ⟨hne,cap,e,g⟩
    · exact .inl ⟨List.eq_nil_of_length_eq_zero (by simpa using hl),hA⟩
    · exact .inr ⟨fun e2=>by subst e2;exact hne (List.eq_nil_of_length_eq_zero (by simpa using hl.symm)),cap,by rw [hl];exact e,by rw [hl];exact g⟩
  | acc hm hb h =>
    rename_i m n sz ty R L
    obtain ⟨ty',k',L2,ho,hn2,hh⟩:=hx
    rw [hm] at ho
    simp only [Option.some.injEq,AObj.acc.injEq] at ho
    obtain ⟨rfl,rfl,rfl⟩:=ho
    have hl : R.length = L.length:=by simpa using h.1
    rcases hh with ⟨rfl,A',rfl⟩ | ⟨hne,cap,rfl,h1,h2,h3⟩
    · have : L = []:=List.eq_nil_of_length_eq_zero (by simpa using hl.symm)
      subst this
      exact ⟨A',0,rfl,Nat.le_refl _,Nat.le_refl _,fun c hc=>by simp at hc,fun h=>by simp at h⟩
    · rcases he.obj m _ hm with q | q
      · exact absurd q hne
      · obtain ⟨vs,q1,q2,q3⟩:=FrzR.held hs he h q
        refine ⟨_,cap,by rw [hl],Nat.le_refl _,by omega,fun c hc=>by simpa using q2 _ (List.mem_map_of_mem hc),fun hp=>⟨ρ m,0,rfl,hs.gone he hm (AObj.acc_real hne) hb,fun i c j x hi hj=>?_⟩⟩
        obtain ⟨u,p1,p2,p3⟩:=q3 i (c.map Leaf.cell) j x.cell (by simp [hi]) (by simp [hj])
        exact ⟨u,by rw [cell_of_heap q1,Nat.zero_add];exact p1,leaf_of_cell p3 p2⟩
  | accI hm hb =>
    rename_i m n ty k L
    obtain ⟨ty',k',L2,ho,hn2,hh⟩:=hx
    rw [hm] at ho
    simp only [AObj.accI,Option.some.injEq,AObj.acc.injEq] at ho
    obtain ⟨rfl,rfl,rfl⟩:=ho
    rcases hh with ⟨e,A',rfl⟩ | ⟨hne,cap,rfl,h1,h2,h3⟩
    · have : L = []:=by simpa using e
      subst this
      exact ⟨A',0,rfl,Nat.le_refl _,Nat.le_refl _,fun h=>by simp at h⟩
    · rcases he.obj m _ hm with q | q
      · exact absurd q hne
      · obtain ⟨vs,q1,q2⟩:=rows_ints q
        have e : (ir k L).length = L.length:=List.length_map ..
        refine ⟨_,cap,by rw [e],Nat.le_refl _,by rw [← e];exact h1,fun hp=>⟨ρ m,0,rfl,hs.gone he hm (AObj.acc_real hne) hb,fun i x hi=>?_⟩⟩
        rw [cell_of_heap q1,Nat.zero_add];exact q2 _ _ hi
  | accW hm hne hsz hb ho hn =>
    rename_i m n n' sz ty R o
    obtain ⟨ty',k',L2,ho2,hn2,hh⟩:=hx
    rw [hm] at ho2
    simp only [Option.some.injEq,AObj.acc.injEq] at ho2
    obtain ⟨rfl,rfl,rfl⟩:=ho2
    rcases hh with ⟨e,-⟩ | ⟨-,cap,rfl,h1,h2,h3⟩
    · exact absurd e hne
    · refine ⟨⟨o,hb,ho⟩,_,cap,by rw [hn],Nat.le_refl _,by omega,fun hc=>⟨rfl,ty,_,h3,?_⟩⟩
      rw [Nat.zero_add];exact Nat.le_mul_of_pos_right _ hsz
  | nilA hb=>exact ⟨_,_,_,hb,rfl,.inl ⟨rfl,none,hx⟩⟩

theorem Weak.frz (hO : Sub st.sg F.sg) (hkeep : ∀ m,F.sg (.out m) = st.sg (.out m)) (hfr : ∀ t,F.fr t = .c .junk ∨ FrzV st.sg F.sg (st.fr t) (F.fr t)) : Weak st F:=fun w ρ tm hs=>by
  refine ⟨ρ,⟨fun m m' o o' h1 h2 r1 r2 e=>?_,fun m o hm=>?_,fun t=>?_,fun g cs hg=>(hs.gl g cs hg).imp fun b hb=>⟨hO.fr hb,fun _=>rfl⟩⟩,fun m o hm hr=>?_,fun m hm=>?_⟩
  · rcases hO m o h1 with ⟨q,a1,a2⟩ | ⟨-,ty,k,rfl⟩
    · rcases hO m' o' h2 with ⟨q',b1,b2⟩ | ⟨-,ty,k,rfl⟩
      · exact hs.inj m m' q q' a1 b1 (by rw [a2.real];exact r1) (by rw [b2.real];exact r2) e
      · cases r2
    · cases r1
  · rcases hO m o hm with ⟨q,a1,a2⟩ | ⟨-,ty,k,rfl⟩
    · have ho:=hs.obj m q a1
      cases a2 with
      | ints=>exact ho
      | acc h =>
        rename_i ty sz L L'
        rcases ho with rfl | ho
        · exact .inl (List.eq_nil_of_length_eq_zero (by simpa using h.1.symm))
        · exact .inr (h.held hO hs.env ho)
      | accN hne =>
        rcases ho with e | ho
        · exact absurd (by simpa using e) hne
        · exact rows_ints ho
      | cellsN=>exact rowS_of_cells ho
      | fix=>exact ho
      | row h =>
        obtain ⟨vs,q1,q2⟩:=ho
        refine ⟨vs,q1,fun i y hy=>?_⟩
        obtain ⟨x,h1,h2⟩:=h i y hy
        obtain ⟨u,p1,p2,p3⟩:=q2 i x h1
        exact ⟨u,p1,p2,h2.held hO hs.env p3⟩
      | cellsR h =>
        obtain ⟨vs,q1,q0,q2⟩:=ho
        refine ⟨vs,q1,fun i y hy=>?_⟩
        obtain ⟨x,h1,h2⟩:=h i y hy
        obtain ⟨u,p1,p2,p3⟩:=q2 i x h1
        exact ⟨u,p1,p2,h2.held hO hs.env p3⟩
      | accC hne h =>
        rename_i ty sz R R'
        rcases ho with rfl | ho
        · exact absurd rfl hne
        · obtain ⟨vs,q1,q2,q3⟩:=h.held hO hs.env ho
          refine ⟨vs,q1,fun j x hj=>?_⟩
          have hlt:=(List.getElem?_eq_some_iff.1 hj).1
          rw [flat_len q2] at hlt
          have hk : 0 < sz:=Nat.pos_of_ne_zero fun e=>by subst e;omega
          have hi : j / sz < R'.length:=(Nat.div_lt_iff_lt_mul hk).2 hlt
          have hm' : j % sz < (R'[j / sz]).length:=by rw [q2 _ (List.getElem_mem hi)];exact Nat.mod_lt _ hk
          have e1 : j / sz * sz + j % sz = j:=by rw [Nat.mul_comm];exact Nat.div_add_mod j sz
          have e2:=flat_get q2 (List.getElem?_eq_getElem hi) (List.getElem?_eq_getElem hm')
          rw [e1,hj] at e2
          obtain ⟨u,p1,p2,p3⟩:=q3 (j / sz) _ (j % sz) _ (List.getElem?_eq_getElem hi) (List.getElem?_eq_getElem hm')
          rw [e1] at p1
          obtain rfl:=Option.some.inj e2
          exact ⟨u,p1,p2,p3⟩
      | cells hl h =>
        obtain ⟨vs,q1,q0,q2⟩:=ho
        refine ⟨vs,q1,by omega,fun i y hy=>?_⟩
        obtain ⟨x,h1,h2⟩:=h i y hy
        obtain ⟨u,p1,p2,p3⟩:=q2 i x h1
        exact ⟨u,p1,p2,h2.held hO hs.env p3⟩
    · exact .inl rfl
  · rcases hfr t with e | h
    · rw [e];trivial
    · exact h.held hO hs.env (hs.fr t)
  · rcases hO m o hm with ⟨q,a1,a2⟩ | ⟨-,ty,k,rfl⟩
    · exact ⟨m,q,a1,by rw [a2.real];exact hr,rfl,fun _=>rfl⟩
    · cases hr
  · cases m <;> simp [Nm.isOut] at hm
    exact ⟨hkeep _,rfl⟩

/-! ### Told by lists -/
def FrzF (A B : Store) (fl : FL) : FL→Prop
  | []=>True
  | (t,v) :: r=>(∃ u,lkO fl t = some u∧FrzV A B u v)∧FrzF A B fl r
theorem FrzF.at {fl : FL} : ∀ {r : FL},FrzF A B fl r→∀ t v,lkO r t = some v→∃ u,lkO fl t = some u∧FrzV A B u v
  | (s,v) :: r,⟨h1,h2⟩,t,v',h=>by
    simp only [lkO] at h
    split at h
    · rename_i e
      have:=Nat.eq_of_beq_eq_true e
      subst this
      obtain rfl:=Option.some.inj h
      exact h1
    · exact FrzF.at h2 t v' h

def outsL : SL→SL
  | []=>[]
  | (.out m,o) :: r=>(.out m,o) :: outsL r
  | _ :: r=>outsL r
theorem outsL_lk (m : Nm) : ∀ sl : SL,lkS (outsL sl) (.out m) = lkS sl (.out m)
  | []=>rfl
  | (.out n,o) :: r=>by simp only [outsL,lkS];rw [outsL_lk m r]
  | (.loc n,o) :: r=>by simp only [outsL,lkS];rw [outsL_lk m r];simp
  | (.new,o) :: r=>by simp only [outsL,lkS];rw [outsL_lk m r];simp
  | (.fam n i,o) :: r=>by simp only [outsL,lkS];rw [outsL_lk m r];simp

def FrzS (A B : Store) : SL→Prop
  | []=>True
  | (m,o') :: r=>((∃ o,A m = some o∧FrzO A B o o') ∨ ((∀ o,A m = some o→o.isAcc = true)∧∃ ty sz,o' = .acc ty sz []))∧FrzS A B r
theorem FrzS.at : ∀ {r : SL},FrzS A B r→∀ m o',lkS r m = some o'→(∃ o,A m = some o∧FrzO A B o o') ∨ ((∀ o,A m = some o→o.isAcc = true)∧∃ ty sz,o' = .acc ty sz [])
  | (n,o) :: r,⟨h1,h2⟩,m,o',h=>by
    simp only [lkS] at h
    split at h
    · rename_i e;subst e;obtain rfl:=Option.some.inj h;exact h1
    · exact FrzS.at h2 m o' h

theorem frz {fl fl' : FL} {sl sl' : SL} {S : Store} (hS : ∀ n b,S n = some b→b.cl S) (ho : outsL sl' = outsL sl) (hs : FrzS (ov sl (pushS S)) (ov sl' (pushS S)) sl') (hf : FrzF (ov sl (pushS S)) (ov sl' (pushS S)) fl fl') :
    Weak ⟨lk' fl,ov sl (pushS S)⟩ ⟨lk' fl',ov sl' (pushS S)⟩:=by
  have hout : ∀ m,lkS sl' (.out m) = lkS sl (.out m):=fun m=>by rw [← outsL_lk,ho,outsL_lk]
  refine Weak.frz (fun m o' hm=>?_) (fun m=>?_) (fun t=>?_)
  · simp only [ov] at hm
    split at hm
    · rename_i o1 h1
      obtain rfl:=Option.some.inj hm
      exact hs.at m _ h1
    · rename_i h1
      obtain ⟨q,b,rfl,hb,rfl⟩:=pushS_some hm
      refine .inl ⟨b.map .out,by simp only [ov];rw [← hout,h1];exact hm,.keep fun x hx m hm'=>?_⟩
      have hcl:=(AObj.cl_cls (S:=S)).1 (hS q _ hb)
      obtain ⟨z,hz,rfl⟩:=cls_map hx
      obtain ⟨n,hn,rfl⟩:=Cell.map_at hm'
      have:=hcl z hz n hn
      simp only [ov]
      split
      · simp
      · simp only [pushS]
        cases e : S n with
        | none=>exact absurd e this
        | some z=>simp
  · simp only [ov,hout]
  · show (lk' fl' t) = _ ∨ _
    simp only [lk']
    cases e : lkO fl' t with
    | none=>exact .inl rfl
    | some v =>
      obtain ⟨u,h1,h2⟩:=hf.at t v e
      rw [h1]
      exact .inr h2

end
end Go.Abs
