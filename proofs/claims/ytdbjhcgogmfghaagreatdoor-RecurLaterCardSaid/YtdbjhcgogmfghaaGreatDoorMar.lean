/-
  An abstract machine for this program, and contracts of its functions: part Mar (no statement by itself).
-/
import Derived.Test.YtdbjhcgogmfghaaGreatDoorRows
import Derived.ProofKit
import Derived.OpenShut
import Derived.LaidMore
import Derived.Lib.SmallJoins
import Derived.Lib.LaidTab
import Derived.MakeChecks
import Derived.Stop.Joined
import Derived.Test.YtdbjhcgogmfghaaGreatDoorMan
import Derived.Test.YtdbjhcgogmfghaaGreatDoorMah
set_option linter.unusedVariables false
set_option linter.unusedSimpArgs false
set_option linter.unnecessarySimpa false

/-
  From the machine's contracts to the rows of recur: what a call comes to where the package's table is laid; what the arguments are.
-/
namespace Go.Proofs
open Go Go.Abs Go.Nums
open Go.ChangeShapes Go.WideShapes Go.ChangeAt Go.RowKit

def ρ0 : Nm→Nat:=fun _=>0
def S0 : Store:=fun _=>none

theorem calls_top {P : Program} {f : FuncId} {fn : Func} {c : Code} {args : List AVal} {res : Value} (h : AFun P f args (.c (.sc res))) (hf : P.funcs[f]? = some fn) (hb : fn.body = some c) (hname : (fn.name == "runtime.NumGoroutine") = false)
    (w : World) (hg : Globs w ρ0 S0) (vs : Array Value) (hv : VSs w ρ0 S0 args vs.toList) : Calls P f vs w fun e w'=>e = .returned res∧Below w.heap.size w w':=by
  have hn' : ¬ fn.name = "runtime.NumGoroutine":=by simpa using hname
  have hrun : (callFunc f vs).run P w = .ok (.enter f vs) w:=by simp [callFunc,hf,hn',hb]
  rcases h.calls S0 .new S0 (fun _ _=>rfl) rfl (fun _=>rfl) w ρ0 vs.toList ⟨fun m m' o o' hm=>(by cases hm),fun m o hm=>(by cases hm)⟩ hg hv with ⟨h1,h2⟩ | ⟨v,h1,-⟩
  · rw [Array.toArray_toList] at h2
    refine h2.mono fun e w'=>?_
    rintro ⟨ρ',v,rfl,-,hx,hr⟩
    exact ⟨by rw [show v = res from hr],hx.os,hx.tape,hx.output,hx.size,fun b hb=>hx.old b hb (fun m o hm=>by cases hm)⟩
  · rw [Array.toArray_toList,hrun] at h1;cases h1

def tabLaid : List Int:=[0,1,56,2,57,49,28,3,61,58,42,50,38,29,17,4,62,47,59,36,45,43,51,22,53,39,33,30,24,18,12,5,63,55,48,27,60,41,37,16,46,35,44,21,52,32,23,11,54,26,40,15,34,20,31,10,25,14,19,9,13,8,7,6]
theorem globs_of {w : World} (h : ∀ i,i < 64→w.cell? ⟨0,i,none⟩ = some (.int .u8 (tabLaid.getD i 0))) : Globs w ρ0 S0:=by
  intro g cs hg
  match g,hg with
  | 0,hg =>
    have e : cs = tabLaid.map fun n=>Leaf.sc (.int .u8 n):=(Option.some.inj hg).symm
    subst e
    refine ⟨0,0,rfl,⟨?_,fun m o hm=>by cases hm⟩,fun j x hj=>?_⟩
    · have:=h 0 (by decide)
      refine Nat.lt_of_not_le fun q=>?_
      rw [World.cell?] at this
      simp [Array.getElem?_eq_none q] at this
    · rw [List.getElem?_map] at hj
      cases hy : tabLaid[j]? with
      | none=>rw [hy] at hj;cases hj
      | some y =>
        rw [hy] at hj
        cases hj
        have hl : j < 64:=(List.getElem?_eq_some_iff.1 hy).1
        refine ⟨_,?_,.sc (c:=.int .u8 y) rfl⟩
        have:=h j hl
        rw [List.getD_eq_getElem?_getD,hy] at this
        rw [Nat.zero_add]
        exact this
  | g + 1,hg=>cases hg

section
variable {H : Type} {enc : TypeId × Value→H} {P : Program} {w : World}

theorem ints_in {t e : TypeId} {n : Nat} {v : Value} {x : DataW H × List MemPlace} (ht : P.underlying t = some (.slice e)) (he : P.underlying e = some (.int .i64)) (hc : P.cellsOf e = 1)
    (h : DataW.trod enc P w 0 (fun _=>true) true n t [v] = some x) : ∃ l : List Int,(∀ z ∈ l,-9223372036854775808 ≤ z∧z < 9223372036854775808)∧l.length < 2 ^ 63∧v.oneCell' = true∧IntsS w (Fr w ρ0 S0) .i64 l l.length v:=by
  rcases open_ints ht he hc h with ⟨hcs,hx⟩ | ⟨a,len,cap,zs,hcs,_,hl,hm,hz,hx,hcell,hwz⟩
  · simp only [List.cons.injEq,and_true] at hcs
    subst hcs
    exact ⟨[],(fun z hz=>by cases hz),by decide,rfl,none,0,rfl,Nat.le_refl _,Nat.le_refl _,fun q=>by simp at q⟩
  · simp only [List.cons.injEq,and_true] at hcs
    subst hcs
    simp only [if_true] at hz
    have hwz' : ∀ z ∈ zs,-9223372036854775808 ≤ z∧z < 9223372036854775808:=fun z hz=>by
      have:=hwz z hz
      simp [Lit.wf,IntKind.min,IntKind.max,IntKind.signed,IntKind.bits] at this
      omega
    have hml : maxLen = 9223372036854775807:=rfl
    have hlen : (zs.take len).length = len:=by simp;omega
    refine ⟨zs.take len,fun y hy=>hwz' y (List.mem_of_mem_take hy),by rw [hlen];omega,rfl,some a,cap,?_,Nat.le_refl _,?_,fun q=>?_⟩
    · rw [hlen]
    · rw [hlen];exact hl
    · rw [hlen] at q
      obtain ⟨b,off,rfl,hc2⟩:=ints_at hcell (by omega)
      refine ⟨b,off,rfl,⟨?_,fun m o hm=>by cases hm⟩,fun i y hi=>?_⟩
      · have:=hc2 0 (by omega)
        refine Nat.lt_of_not_le fun g=>?_
        rw [World.cell?] at this
        simp [Array.getElem?_eq_none g] at this
      · have hi' : i < len:=by
          have:=(List.getElem?_eq_some_iff.1 hi).1
          simp at this;omega
        rw [List.getElem?_take_of_lt hi'] at hi
        rw [hc2 i (by omega),List.getD_eq_getElem?_getD,hi];rfl

theorem vss_nil : VSs w ρ0 S0 [] []:=⟨rfl,fun i x h=>by simp at h⟩
theorem vss_cons {x : AVal} {v : Value} {xs : List AVal} {vs : List Value} (h : VS w ρ0 S0 x v) (t : VSs w ρ0 S0 xs vs) : VSs w ρ0 S0 (x :: xs) (v :: vs):=by
  refine ⟨by simp [t.1],fun i y hi=>?_⟩
  cases i with
  | zero=>simp only [List.getElem?_cons_zero,Option.some.injEq] at hi;subst hi;exact ⟨v,rfl,h⟩
  | succ i=>exact t.2 i y (by simpa using hi)
theorem vs_int {k : IntKind} {n : Int} : VS w ρ0 S0 (ivl k n) (.int k n):=rfl
end
end Go.Proofs

namespace Go.Proofs.YtdbjhcgogmfghaaGreatDoor
open Go Go.Abs Go.Nums Go.Proofs
open Go.ChangeShapes Go.WideShapes Go.ChangeAt Go.RowKit Go.Joins

set_option maxRecDepth 100000

theorem own : ownKnob Tryz.prog.godebug = none:=by kernel_rfl
theorem laidOut : laidOutB Tryz.prog = true:=by kernel_rfl
def laidT : List (String × DataW Unit):=[("math/bits.deBruijn64tab",Rows.laid_math_bits_deBruijn64tab)]
theorem gTab : Tryz.prog.globalNamed "math/bits.deBruijn64tab" = some 0:=by kernel_rfl

theorem gTabT : (Tryz.prog.globals[0]?).map (·.type) = some 210:=by kernel_rfl
theorem cellsTab : Tryz.prog.cellsOf 210 = 64:=by kernel_rfl
theorem cellsU8 : Tryz.prog.cellsOf 5 = 1:=by kernel_rfl
theorem cellsI64 : Tryz.prog.cellsOf 2 = 1:=by kernel_rfl
theorem of_laid {W : World} (h : laidMetH Tryz.prog laidT W) : Globs W ρ0 S0:=by
  rw [MakeChecks.laidMetH_plain _ _ _ (by kernel_rfl)] at h
  have hT : Lib.TabIs Tryz.prog W "math/bits.deBruijn64tab" .u8 tabLaid:=Lib.tabIs_of_head gTab gTabT Tryz.underlying210 Tryz.underlying5 cellsU8 cellsTab (rest:=[]) h
  exact globs_of fun i hi=>hT.cell gTab i hi
theorem longs_in {H : Type} {enc : TypeId × Value→H} {W : World} {base : Nat} {v : Value} {d : DataW H} {p : List MemPlace} (hv : Value.okWide Tryz.prog W .any base 39 v) (h : DataW.Trod enc Tryz.prog W 0 (fun _=>true) true 39 v d p) :
    ∃ l : List Int,(∀ z ∈ l,-9223372036854775808 ≤ z∧z < 9223372036854775808)∧l.length < 2 ^ 63∧VS W ρ0 S0 (li l) v:=by
  obtain ⟨a0,len,cap,rfl⟩:=okWide_slice Tryz.underlying39 hv
  obtain ⟨fuel,hf⟩:=h
  obtain ⟨l,h1,h2,-,h4⟩:=ints_in Tryz.underlying39 Tryz.underlying2 cellsI64 hf
  exact ⟨l,h1,h2,h4⟩

theorem door_met (os : Os) (args : Array Value) : laidMetH Tryz.prog laidT ((World.doorLaid Tryz.prog 14 os).forCall (fun _ _=>0) ⟨#[],args,[]⟩).memory :=
  laidMetH_of_parts3 (fuel:=8) (laidMet_of_run' 8 (by kernel_rfl) (by kernel_rfl)) (by kernel_rfl) (by kernel_rfl)
end Go.Proofs.YtdbjhcgogmfghaaGreatDoor

/-
  Arguments of recur's laws that are whole numbers.
-/
namespace Go.Proofs
open Go Go.Abs Go.Nums
open Go.ChangeShapes Go.WideShapes Go.ChangeAt Go.RowKit
section
variable {H : Type} {enc : TypeId × Value→H} {P : Program} {w : World}
theorem limbs_in {t e : TypeId} {n : Nat} {v : Value} {x : DataW H × List MemPlace} (ht : P.underlying t = some (.slice e)) (he : P.underlying e = some (.int .u64)) (hc : P.cellsOf e = 1)
    (h : DataW.trod enc P w 0 (fun _=>true) true n t [v] = some x) : ∃ l : List Nat,rng B l∧l.length < 2 ^ 63∧v.oneCell' = true∧IntsS w (Fr w ρ0 S0) .u64 (U l) (U l).length v:=by
  rcases open_ints ht he hc h with ⟨hcs,hx⟩ | ⟨a,len,cap,zs,hcs,_,hl,hm,hz,hx,hcell,hwz⟩
  · simp only [List.cons.injEq,and_true] at hcs
    subst hcs
    exact ⟨[],rng_nil,by decide,rfl,none,0,rfl,Nat.le_refl _,Nat.le_refl _,fun q=>by simp [U] at q⟩
  · simp only [List.cons.injEq,and_true] at hcs
    subst hcs
    simp only [if_true] at hz
    have hwz' : ∀ z ∈ zs,0 ≤ z∧z < 18446744073709551616:=fun z hz=>by
      have:=hwz z hz
      simp [Lit.wf,IntKind.min,IntKind.max,IntKind.signed,IntKind.bits] at this
      omega
    have hU : U ((zs.take len).map Int.toNat) = zs.take len:=by
      rw [U,List.map_map]
      conv=>rhs;rw [← List.map_id (zs.take len)]
      refine List.map_congr_left fun z hz=>?_
      have:=hwz' z (List.mem_of_mem_take hz)
      simp;omega
    have hml : maxLen = 9223372036854775807:=rfl
    have hlen : ((zs.take len).map Int.toNat).length = len:=by simp;omega
    refine ⟨(zs.take len).map Int.toNat,fun y hy=>?_,by rw [hlen];omega,rfl,some a,cap,?_,Nat.le_refl _,?_,fun q=>?_⟩
    · obtain ⟨z,h1,rfl⟩:=List.mem_map.1 hy
      have:=hwz' z (List.mem_of_mem_take h1)
      show z.toNat < 18446744073709551616
      omega
    · rw [U_len,hlen]
    · rw [U_len,hlen];exact hl
    · rw [U_len,hlen] at q
      obtain ⟨b,off,rfl,hc2⟩:=ints_at hcell (by omega)
      refine ⟨b,off,rfl,⟨?_,fun m o hm=>by cases hm⟩,fun i y hi=>?_⟩
      · have:=hc2 0 (by omega)
        refine Nat.lt_of_not_le fun g=>?_
        rw [World.cell?] at this
        simp [Array.getElem?_eq_none g] at this
      · rw [hU] at hi
        have hi' : i < len:=by
          have:=(List.getElem?_eq_some_iff.1 hi).1
          simp at this;omega
        rw [List.getElem?_take_of_lt hi'] at hi
        rw [hc2 i (by omega),List.getD_eq_getElem?_getD,hi];rfl

theorem vs_whole {s : Bool} {l : List Nat} {v : Value} (h1 : v.oneCell' = true) (h2 : IntsS w (Fr w ρ0 S0) .u64 (U l) (U l).length v) : VS w ρ0 S0 (wi s l) (.agg #[.bool s,v]):=by
  refine ⟨_,rfl,rfl,fun i x hi=>?_⟩
  match i with
  | 0=>simp only [List.getElem?_cons_zero,Option.some.injEq] at hi;subst hi;exact ⟨_,rfl,rfl,rfl⟩
  | 1=>simp only [List.getElem?_cons_succ,List.getElem?_cons_zero,Option.some.injEq] at hi;subst hi;exact ⟨_,rfl,h1,h2⟩
  | i + 2=>simp at hi
end
end Go.Proofs

namespace Go.Proofs.YtdbjhcgogmfghaaGreatDoor
open Go Go.Abs Go.Nums Go.Proofs
open Go.ChangeShapes Go.WideShapes Go.ChangeAt Go.RowKit Go.Joins

theorem cellsW : Tryz.prog.cellsOf 41 = 2:=by kernel_rfl
theorem cellsU64 : Tryz.prog.cellsOf 55 = 1:=by kernel_rfl

set_option maxRecDepth 100000 in
theorem whole_in {H : Type} {enc : TypeId × Value→H} {W : World} {base : Nat} {v : Value} {d : DataW H} {p : List MemPlace} (hv : Value.okWide Tryz.prog W .any base 41 v) (h : DataW.Trod enc Tryz.prog W 0 (fun _=>true) true 41 v d p) :
    ∃ (s : Bool) (l : List Nat),rng B l∧l.length < 2 ^ 63∧VS W ρ0 S0 (wi s l) v:=by
  obtain ⟨c0,c1,y0,y1,m,rfl,rfl,rfl,hy0,hy1⟩:=open_agg2 Tryz.underlying41 (by kernel_rfl) cellsW hv h
  obtain ⟨s,e0,rfl⟩:=DataW.trod_bool Tryz.underlying4 hy0
  simp only [List.cons.injEq,and_true] at e0
  subst e0
  obtain ⟨l,hr,hl,ho,hi⟩:=limbs_in Tryz.underlying26 Tryz.underlying55 cellsU64 hy1
  exact ⟨s,l,hr,hl,vs_whole ho hi⟩
end Go.Proofs.YtdbjhcgogmfghaaGreatDoor
