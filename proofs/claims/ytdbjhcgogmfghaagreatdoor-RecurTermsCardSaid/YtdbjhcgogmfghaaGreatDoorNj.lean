/-
  Contracts of functions: part Nj (no statement by itself).
-/
import Derived.Test.YtdbjhcgogmfghaaGreatDoorNb
import Derived.Test.YtdbjhcgogmfghaaGreatDoorNi
import Derived.Test.YtdbjhcgogmfghaaGreatDoorNd
import Derived.SizedLaws
import Derived.Deep.Slices
set_option linter.unusedVariables false
set_option linter.unusedSimpArgs false
set_option linter.unnecessarySimpa false

/-
  The reference: Term.
-/
-- kv2
namespace Go.Proofs
open Go Go.Abs Go.Nums
attribute [local irreducible] thenA blockA awp aw Stp EndF EndP EndN EndG EndT aOps aOpsM scopeA
set_option linter.unusedSimpArgs false
set_option linter.unusedVariables false
set_option maxHeartbeats 4000000

theorem c_rtold (x : Nu) (K : Nat) (hx : x.ok K) (hK : K ≤ 2 ^ 36) (hs : x.n = 0 ∨ (blen x.n : Int) + x.e ≤ 262144) : AFun Tryz.prog 49 [nu x] (.tup [wz x.val,ivl .i64 0]):=by
 have h:=c_tellint1 x K hx hK hs
 refine aF (mu:=muF) Tryz.func49 fun S hS=>?_
 repeat refine gN ?_
 (refine zw ?_;refine s_call (h) ?_)
 repeat refine gN ?_
 (refine eF hS ?_ (fl':=[(2,.c (.pim [.sc (.bool (decide (x.val < 0))),.ints .u64 (U (digs B x.val.natAbs))])),(3,ivl .i64 0)]);(repeat' (first | refine fJ ?_ ?_ | exact True.intro);all_goals (try (first | exact kvA | exact kOac | (refine kW (ov_of lks) rfl ?_ ?_)))))

abbrev rowN (x : Nu) : List Cell:=[.sc (.bool x.s),.ints .u64 (U (digs B x.n)),.sc (.int .i64 x.e)]
def NuL (xs : List Nu) (l : List Int) : Prop:=xs.length = l.length∧∀ (j : Nat) x,xs[j]? = some x→x.e = 0∧x.val = l.getD j 0∧blen x.n ≤ 262144
theorem NuL.snoc {xs : List Nu} {l : List Int} {x : Nu} {v : Int} (h : NuL xs l) (h1 : x.e = 0) (h2 : x.val = v) (h3 : blen x.n ≤ 262144) : NuL (xs ++ [x]) (l ++ [v]):=by
 refine ⟨by simp [h.1],fun j y hj=>?_⟩
 rcases Nat.lt_or_ge j xs.length with q | q
 ·rw [List.getElem?_append_left q] at hj
  have:=h.2 j y hj
  rw [getD_app (by rw [← h.1];exact q)]
  exact this
 ·rw [List.getElem?_append_right q] at hj
  have hj0 : j - xs.length = 0:=by
   have:=(List.getElem?_eq_some_iff.1 hj).1
   simpa using this
  rw [hj0] at hj
  cases hj
  refine ⟨h1,?_,h3⟩
  rw [h2,List.getD_eq_getElem?_getD,List.getElem?_append_right (by rw [← h.1];exact q),← h.1,hj0];rfl
theorem extN_add {b : List Int} : ∀ {k : Nat} {l l' : List Int} (j : Nat),extN b k l = some l'→extN b (k + j) l = extN b j l'
 | 0,l,l',j,h=>by rw [Nat.zero_add,Option.some.inj (show some l = some l' from h)]
 | k + 1,l,l',j,h=>by
  rw [show k + 1 + j = (k + j) + 1 by omega,extN]
  rw [extN] at h
  split at h
  ·cases h
  ·rename_i g
   rw [if_neg g]
   exact extN_add j h
theorem extN_none {b l : List Int} (h : 262144 < blen (dotR b l).natAbs) (j : Nat) : extN b (j + 1) l = none:=by rw [extN,if_pos h]
theorem Nu.val0 {x : Nu} (h : x.e = 0) : x.val.natAbs = x.n:=by
 unfold Nu.val
 rw [h]
 unfold sg
 split <;> simp

theorem rowN_nm (xs : List Nu) : ∀ c ∈ xs.map rowN,∀ x ∈ c,∀ m,¬ x.at m:=fun c hc x hx m hm=>by
 obtain ⟨y,-,rfl⟩:=List.mem_map.1 hc
 simp only [List.mem_cons,List.not_mem_nil,or_false] at hx
 rcases hx with rfl | rfl | rfl <;> exact hm
theorem nu_step {x b y : Nu} {K : Nat} (hK : K ≤ 1000) (h1 : x.ok (524288 + K)) (h2 : x.e = 0) (h3 : b.ok 262144) (h4 : b.e = 0) (h5 : y.ok 262144) (h6 : y.e = 0) :
  (x.plus (b.times y)).ok (524288 + (K + 1))∧(x.plus (b.times y)).e = 0∧(x.plus (b.times y)).val = x.val + b.val * y.val:=by
 have a1:=Nu.ok_times h3 h5
 have a2 : (b.times y).ok (524288 + K):=⟨a1.1,by have:=a1.2;omega⟩
 have a3 : (b.times y).e = 0:=by show b.e + y.e = 0;omega
 refine ⟨Nu.ok_plus h1 a2,?_,?_⟩
 ·unfold Nu.plus
  split
  ·exact a3
  ·split
   ·exact h2
   ·split
    ·unfold Nu.plus0;split
     ·exact a3
     ·split <;> exact a3
    ·unfold Nu.plus0;split
     ·exact h2
     ·split <;> exact h2
 ·rw [Nu.val_plus h1.1 a2.1,Nu.val_times h3.1 h5.1]

theorem c_refterm (ns bs : List Int) (m : Nat) (res : AVal) (hres : nm0 res) (hL : ns.length = bs.length) (h64 : bs.length ≤ 64) (hm : m ≤ 4096) (hn : lims 4096 ns) (hb : lims 4096 bs)
  (hR : match extN bs (m + 1 - ns.length) ns with | none=>res = .tup [w0,ivl .i64 3] | some l=>res = .tup [wz (l.getD m 0),ivl .i64 0]) :
  AFun Tryz.prog 12 [zsq ns,zsq bs,iv m] res:=by
 have hU1 : ((ns.map zp).map rowI).length = ns.length:=by simp
 have hU2 : ((bs.map zp).map rowI).length = bs.length:=by simp
 have hz : ∀ (l : List Int),lims 4096 l→∀ p ∈ l.map zp,p.2.length < 2 ^ 60:=fun l hl p hp=>by
  obtain ⟨n,h1,rfl⟩:=List.mem_map.1 hp
  have:=hl n h1
  show (digs B n.natAbs).length < _
  omega
 have hr1:=c_refright (ns.map zp) (by simp;omega) (hz ns hn)
 have hr2:=c_refright (bs.map zp) (by simp;omega) (hz bs hb)
 rw [allR_lims hn] at hr1
 rw [allR_lims hb] at hr2
 have hW0 : AFun Tryz.prog 27 [ivl .i64 0] (nu ⟨false,0,0⟩):=c_numwhole1 0 (by decide)
 have bl : ∀ {l : List Int},lims 4096 l→∀ i,blen (l.getD i 0).natAbs ≤ 262144:=fun {l} hl i=>by
  obtain ⟨K,hK⟩ : ∃ K : Nat,K = 4096:=⟨_,rfl⟩
  have h0 : (digs B (l.getD i 0).natAbs).length ≤ K:=by rw [hK];exact lims_get hl i
  rw [show (262144 : Nat) = 64 * K by omega,blen_le,Nat.pow_mul]
  exact (digs_len hB).1 h0
 refine afun (mu:=muF) Tryz.func12 rfl (by decide) rfl (by decide) (Nat.le_of_ble_eq_true rfl) (by simp [nm0,AVal.at,AVal.at1,Cell.at]) hres fun S hS=>?_
 repeat refine gN ?_
 (refine zw ?_;refine s_call (hr1) ?_)
 repeat refine gN ?_
 try refine stp_gT (by exact rfl) (by exact rfl) ?_
 (refine zw ?_;refine s_call (hr2) ?_)
 repeat refine gN ?_
 rw [hU1,hU2]
 (refine zw ?_;refine s_cmp (fun g1=>?_) (fun g1=>?_))
 ·exact absurd g1 (by omega)
 repeat refine gN ?_
 (refine zw ?_;refine s_cmp (fun g2=>?_) (fun g2=>?_))
 ·exact absurd g2 (by omega)
 repeat refine gN ?_
 rw [hU2]
 (refine zw ?_;refine s_cmp (fun g3=>?_) (fun g3=>?_))
 ·exact absurd g3 (by omega)
 repeat refine gN ?_
 refine s_cmp (fun g4=>?_) (fun g4=>?_)
 ·exact absurd g4 (by omega)
 repeat refine gN ?_
 refine awp_rep2 (fun (i : Nat) (xs : List Nu)=>⟨lk' [(0,zsq ns),(1,zsq bs),(2,iv m),(6,ptr (.loc 6)),(8,.accv (.loc 60) i),(9,iv i)],ov [(.loc 60,.acc 49 3 (xs.map rowN)),(.loc 6,.cells 28 [.sc (.bool false),.sc (.slice none 0 0)])] (pushS S)⟩)
  (fun i xs=>∃ l : List Int,l.length = i∧NuL xs l∧(i ≤ ns.length→l = ns.take i)∧(ns.length ≤ i→extN bs (i - ns.length) ns = some l)∧i ≤ max (m + 1) ns.length) (fun i _=>max (m + 1) ns.length + 1 - i) 0 [] ⟨[],rfl,⟨rfl,fun j x h=>by cases h⟩,fun _=>rfl,fun h=>by
   have : ns = []:=List.eq_nil_of_length_eq_zero (by omega)
   subst this;rfl,Nat.zero_le _⟩ ?_ ?_
 ·(refine fz hS ?_ ?_;all_goals (repeat' (first | refine fJ ?_ ?_ | exact True.intro));all_goals (try (first | exact kvA | exact kOac | (refine kW (ov_of lks) rfl ?_ ?_))))
  ·refine ⟨.inr ⟨fun _ h=>(by cases (show none = some _ from h)),_,_,rfl⟩,?_⟩
   (repeat' (first | refine fJ ?_ ?_ | exact True.intro);all_goals (try (first | exact kvA | exact kOac | (refine kW (ov_of lks) rfl ?_ ?_))))
  ·exact .nilA (ov_of rfl)
 rintro i xs ⟨l,hl,hX,h1,h2,hi⟩
 have hxl : xs.length = i:=by rw [hX.1,hl]
 have hmx : max (m + 1) ns.length ≤ 4097:=by omega
 iterate 1 refine gN ?_
 refine awp_mid (fun st=>(i ≤ m ∨ i < ns.length)∧Weak st ⟨lk' [(0,zsq ns),(1,zsq bs),(2,iv m),(6,ptr (.loc 6)),(8,.accv (.loc 60) i),(9,iv i)],ov [(.loc 60,.acc 49 3 (xs.map rowN)),(.loc 6,.cells 28 [.sc (.bool false),.sc (.slice none 0 0)])] (pushS S)⟩) ?_ ?_
 ·repeat refine gN ?_
  (refine zw ?_;refine s_cmp (fun g5=>?_) (fun g5=>?_))
  ·repeat refine gN ?_
   refine ⟨.inl (by omega),?_⟩
   (refine fz hS ?_ ?_;all_goals (repeat' (first | refine fJ ?_ ?_ | exact True.intro));all_goals (try (first | exact kvA | exact kOac | (refine kW (ov_of lks) rfl ?_ ?_))))
   exact .of_nm0 (acc_nm0 (rowN_nm _))
  repeat refine gN ?_
  rw [hU1]
  refine s_cmp (fun g6=>?_) (fun g6=>?_)
  ·repeat refine gN ?_
   refine ⟨.inr (by omega),?_⟩
   (refine fz hS ?_ ?_;all_goals (repeat' (first | refine fJ ?_ ?_ | exact True.intro));all_goals (try (first | exact kvA | exact kOac | (refine kW (ov_of lks) rfl ?_ ?_))))
   exact .of_nm0 (acc_nm0 (rowN_nm _))
  have hE : extN bs (m + 1 - ns.length) ns = some l:=by
   have:=h2 (by omega)
   rw [show i - ns.length = m + 1 - ns.length by omega] at this
   exact this
  rw [hE] at hR
  subst hR
  obtain ⟨y,hy⟩ : ∃ y,xs[m]? = some y:=⟨_,List.getElem?_eq_getElem (by omega)⟩
  obtain ⟨y1,y2,y3⟩:=hX.2 m y hy
  have hTo:=c_rtold y 262144 ⟨by omega,by omega⟩ (by decide) (.inr (by omega))
  rw [y2] at hTo
  repeat refine gN ?_
  refine zw1 (za3 ttOk (i:=m) (n:=2) (sz:=3) (c:=rowN y) ?_ (by rw [List.getElem?_map,hy];rfl) rfl (by show (m : Int).toNat * 3 = m * 3;rw [show (m : Int).toNat = m by omega]))
  repeat refine gN ?_
  (refine zw ?_;refine s_call (hTo) ?_)
  repeat refine gN ?_
  (refine eF hS ?_ (fl':=[(6,.c (.pim [.sc (.bool (decide (l.getD m 0 < 0))),.ints .u64 (U (digs B (l.getD m 0).natAbs))])),(7,ivl .i64 0)]);(repeat' (first | refine fJ ?_ ?_ | exact True.intro);all_goals (try (first | exact kvA | exact kOac | (refine kW (ov_of lks) rfl ?_ ?_)))))
 rintro st ⟨hc,hst⟩
 refine awp_weak _ hst ?_
 clear hst st
 repeat refine gN ?_
 rw [hU1]
 (refine zw ?_;refine s_cmp (fun g6=>?_) (fun g6=>?_))
 ·obtain ⟨x,hx⟩ : ∃ x,ns[i]? = some x:=⟨_,List.getElem?_eq_getElem (by omega)⟩
  have hxD : ns.getD i 0 = x:=by rw [List.getD_eq_getElem?_getD,hx];rfl
  have hxb : blen x.natAbs ≤ 262144:=by rw [← hxD];exact bl hn i
  have hxl : (digs B x.natAbs).length ≤ 4096:=hn x (List.mem_of_getElem? hx)
  repeat refine gN ?_
  rw [show (i : Int).toNat = i by omega,rowI_get (p:=zp x) (by rw [List.getElem?_map,hx];rfl)]
  repeat refine gN ?_
  (refine zw ?_;refine s_call (c_numint (decide (x < 0)) (digs B x.natAbs) (rng_digs hB _) (by omega)) ?_)
  rw [val_digs hB]
  repeat refine gN ?_
  (refine zw ?_;refine s_bld (out:=rowN (zNu x)) ttOk ?_)
  refine zw1 ?_
  refine s_appX ttOk (sz:=2) (nb:=40) (Y:=[rowN (zNu x)]) (hn:=by simp [hxl,hX.1,hl]) ?_ ?_ ?_
  ·exact srcR_one lks rfl
  ·simp [maxLen,hX.1,hl];omega
  repeat refine gN ?_
  have hlx : l ++ [x] = ns.take (i + 1):=by rw [h1 (by omega),List.take_add_one,hx];rfl
  refine ⟨i + 1,xs ++ [zNu x],?_,⟨l ++ [x],by simp [hl],hX.snoc rfl (zNu_val x) hxb,fun _=>hlx,fun h=>?_,by omega⟩,by omega⟩
  ·rw [List.map_append,List.map_singleton]
   (refine fz hS ?_ ?_;all_goals (repeat' (first | refine fJ ?_ ?_ | exact True.intro));all_goals (try (first | exact kvA | exact kOac | (refine kW (ov_of lks) rfl ?_ ?_))))
   ·rw [← List.map_singleton (f:=rowN),← List.map_append]
    exact .of_nm0 (acc_nm0 (rowN_nm _))
  ·rw [hlx,show i + 1 - ns.length = 0 by omega,List.take_of_length_le (by omega)];rfl
 have him : i ≤ m:=by omega
 have hni : ns.length ≤ i:=by omega
 have hE:=h2 hni
 repeat refine gN ?_
 (refine zw ?_;refine s_call (hW0) ?_)
 repeat refine gN ?_
 refine awp_midB (fun st=>∃ s : Nu,s.ok (524288 + bs.length)∧s.e = 0∧s.val = dotR bs l∧Weak st ⟨lk' [(0,zsq ns),(1,zsq bs),(2,iv m),(6,ptr (.loc 6)),(8,.accv (.loc 60) i),(9,iv i),(10,ptr (.loc 10))],ov [(.loc 10,.cells 49 (rowN s)),(.loc 60,.acc 49 3 (xs.map rowN)),(.loc 6,.cells 28 [.sc (.bool false),.sc (.slice none 0 0)])] (pushS S)⟩) ?_ ?_
 ·refine awp_rep2 (fun (k : Nat) (s : Nu)=>⟨lk' [(0,zsq ns),(1,zsq bs),(2,iv m),(6,ptr (.loc 6)),(8,.accv (.loc 60) i),(9,iv i),(10,ptr (.loc 10)),(11,iv k)],ov [(.loc 10,.cells 49 (rowN s)),(.loc 60,.acc 49 3 (xs.map rowN)),(.loc 6,.cells 28 [.sc (.bool false),.sc (.slice none 0 0)])] (pushS S)⟩) (fun k s=>k ≤ bs.length∧s.ok (524288 + k)∧s.e = 0∧s.val = dotS bs l k) (fun k _=>bs.length + 1 - k) 0 ⟨false,0,0⟩ ⟨Nat.zero_le _,⟨Int.le_refl _,by show (blen 0 : Int) + 0 ≤ _;have:=(blen_le 0 0).2 (by decide);omega⟩,rfl,by simp [dotS,Nu.val,sg]⟩ ?_ ?_
  ·(refine fz hS ?_ ?_;all_goals (repeat' (first | refine fJ ?_ ?_ | exact True.intro));all_goals (try (first | exact kvA | exact kOac | (refine kW (ov_of lks) rfl ?_ ?_))))
   ·exact .of_nm0 cells_nmN
   ·exact .of_nm0 (acc_nm0 (rowN_nm _))
  rintro k s ⟨hk,s1,s2,s3⟩
  repeat refine gN ?_
  rw [hU2]
  (refine zw ?_;refine s_cmp (fun g7=>?_) (fun g7=>?_))
  ·obtain ⟨x,hx⟩ : ∃ x,bs[k]? = some x:=⟨_,List.getElem?_eq_getElem (by omega)⟩
   have hxD : bs.getD k 0 = x:=by rw [List.getD_eq_getElem?_getD,hx];rfl
   have hxb : blen x.natAbs ≤ 262144:=by rw [← hxD];exact bl hb k
   have hxl' : (digs B x.natAbs).length ≤ 4096:=hb x (List.mem_of_getElem? hx)
   obtain ⟨y,hy⟩ : ∃ y,xs[i - 1 - k]? = some y:=⟨_,List.getElem?_eq_getElem (by omega)⟩
   obtain ⟨y1,y2,y3⟩:=hX.2 (i - 1 - k) y hy
   have o1:=zNu_ok hxb
   have o2 : y.ok 262144:=⟨by omega,by omega⟩
   have o3:=nu_step (by omega) s1 s2 o1 rfl o2 y1
   have hI:=c_numint (decide (x < 0)) (digs B x.natAbs) (rng_digs hB _) (by omega)
   rw [val_digs hB] at hI
   have hTm:=c_numtimes (zNu x) y 262144 262144 o1 o2 (by decide) (by decide)
   have a1:=Nu.ok_times o1 o2
   have hPl:=c_numplus s ((zNu x).times y) (524288 + k) s1 ⟨a1.1,by have:=a1.2;omega⟩ (by omega)
   have hv : (s.plus ((zNu x).times y)).val = dotS bs l (k + 1):=by rw [o3.2.2,s3,zNu_val,y2,dotS,hxD,hl]
   repeat refine gN ?_
   rw [show (k : Int).toNat = k by omega,rowI_get (p:=zp x) (by rw [List.getElem?_map,hx];rfl)]
   repeat refine gN ?_
   (refine zw ?_;refine s_call (hI) ?_)
   repeat refine gN ?_
   refine zw2 (za3 ttOk (i:=i - 1 - k) (n:=2) (sz:=3) (c:=rowN y) ?_ (by rw [List.getElem?_map,hy];rfl) rfl (by show ((i : Int) - 1 - (k : Int)).toNat * 3 = (i - 1 - k) * 3;rw [show ((i : Int) - 1 - (k : Int)).toNat = i - 1 - k by omega]))
   repeat refine gN ?_
   (refine zw ?_;refine s_call (hTm) ?_)
   repeat refine gN ?_
   (refine zw ?_;refine s_call (hPl) ?_)
   repeat refine gN ?_
   refine ⟨k + 1,s.plus ((zNu x).times y),?_,⟨by omega,o3.1,o3.2.1,hv⟩,by omega⟩
   (refine fz hS ?_ ?_;all_goals (repeat' (first | refine fJ ?_ ?_ | exact True.intro));all_goals (try (first | exact kvA | exact kOac | (refine kW (ov_of lks) rfl ?_ ?_))))
   ·exact .of_nm0 cells_nmN
   ·exact .of_nm0 (acc_nm0 (rowN_nm _))
  ·repeat refine gN ?_
   have : k = bs.length:=by omega
   subst this
   refine ⟨s,s1,s2,s3,?_⟩
   (refine fz hS ?_ ?_;all_goals (repeat' (first | refine fJ ?_ ?_ | exact True.intro));all_goals (try (first | exact kvA | exact kOac | (refine kW (ov_of lks) rfl ?_ ?_))))
   ·exact .of_nm0 cells_nmN
   ·exact .of_nm0 (acc_nm0 (rowN_nm _))
 rintro st ⟨s,s1,s2,s3,hst⟩
 refine awp_weak _ hst ?_
 clear hst st
 have hsb : blen s.n < 2 ^ 50:=by have:=s1.2;omega
 have hTop:=c_numtop s (by
  have:=len_of_blen (n:=s.n) (K:=9000) (by have:=s1.2;omega)
  omega) hsb (by omega)
 rw [s2,Int.zero_add] at hTop
 have hsn : s.n = (dotR bs l).natAbs:=by rw [← s3,Nu.val0 s2]
 repeat refine gN ?_
 (refine zw ?_;refine s_call (hTop) ?_)
 repeat refine gN ?_
 (refine zw ?_;refine s_cmp (fun g8=>?_) (fun g8=>?_))
 ·have hN : extN bs (m + 1 - ns.length) ns = none:=by
   rw [show m + 1 - ns.length = (i - ns.length) + ((m - i) + 1) by omega,extN_add _ hE]
   exact extN_none (by rw [← hsn];omega) _
  rw [hN] at hR
  subst hR
  repeat refine gN ?_
  (refine eF hS ?_ (fl':=[(6,.c (.pim [.sc (.bool false),.ints .u64 []])),(7,ivl .i64 3)]);(repeat' (first | refine fJ ?_ ?_ | exact True.intro);all_goals (try (first | exact kvA | exact kOac | (refine kW (ov_of lks) rfl ?_ ?_)))))
 have hN : extN bs (i + 1 - ns.length) ns = some (l ++ [dotR bs l]):=by
  rw [show i + 1 - ns.length = (i - ns.length) + 1 by omega,extN_add 1 hE,extN,if_neg (by rw [← hsn];omega)];rfl
 repeat refine gN ?_
 (refine zw ?_;refine s_bld (out:=rowN s) ttOk ?_)
 refine zw1 ?_
 refine s_appX ttOk (sz:=2) (nb:=40) (Y:=[rowN s]) (hn:=by simp [hxl,hX.1,hl]) ?_ ?_ ?_
 ·exact srcR_one lks rfl
 ·simp [maxLen,hX.1,hl];omega
 repeat refine gN ?_
 refine ⟨i + 1,xs ++ [s],?_,⟨l ++ [dotR bs l],by simp [hl],hX.snoc s2 s3 (by omega),fun h=>by omega,fun _=>hN,by omega⟩,by omega⟩
 rw [List.map_append,List.map_singleton]
 (refine fz hS ?_ ?_;all_goals (repeat' (first | refine fJ ?_ ?_ | exact True.intro));all_goals (try (first | exact kvA | exact kOac | (refine kW (ov_of lks) rfl ?_ ?_))))
 ·rw [← List.map_singleton (f:=rowN),← List.map_append]
  exact .of_nm0 (acc_nm0 (rowN_nm _))
end Go.Proofs

/-
  Arguments of recur's laws that are lists of whole numbers.
-/
namespace Go.Proofs
open Go Go.Abs Go.Nums
open Go.ChangeShapes Go.WideShapes Go.ChangeAt Go.RowKit

theorem limbs_sz {H : Type} {enc : TypeId × Value→H} {P : Program} {w : World} {t e : TypeId} {n R : Nat} {v : Value} {x : DataW H × List MemPlace} {l : List Nat} (ht : P.underlying t = some (.slice e)) (he : P.underlying e = some (.int .u64)) (hc : P.cellsOf e = 1)
  (h : DataW.trod enc P w 0 (fun _=>true) true n t [v] = some x) (hw : ∀ n ∈ x.1.weights P t,n ≤ R) (hv : IntsS w (Fr w ρ0 S0) .u64 (U l) (U l).length v) : l.length * P.bytesOf e ≤ R:=by
 obtain ⟨A,cap,rfl,-,-,-⟩:=hv
 rw [U_len] at h
 rcases open_ints ht he hc h with ⟨hcs,hx⟩ | ⟨a,len,cap',zs,hcs,-,hl,-,hz,hx,-,-⟩
 ·simp only [List.cons.injEq,Value.slice.injEq,and_true] at hcs
  rw [hcs.2.1,Nat.zero_mul];exact Nat.zero_le _
 ·simp only [List.cons.injEq,Value.slice.injEq,and_true] at hcs
  rw [hcs.2.1]
  simp only [if_true] at hz
  have:=hw ((zs.take len).length * 1 + (zs.drop len).length * 1 |> (· * P.bytesOf e)) (by
   rw [hx];simp [DataW.weights,ht,lits])
  simp only [Nat.mul_one,List.length_take,List.length_drop] at this
  refine Nat.le_trans (Nat.mul_le_mul_right _ ?_) this
  omega
theorem weights_all {H : Type} {P : Program} {e : TypeId} : ∀ {ds : List (DataW H)} {d : DataW H} {n : Nat},d ∈ ds→n ∈ d.weights P e→n ∈ DataW.weightsAll P e ds
 | x :: r,d,n,hd,hn=>by
  simp only [DataW.weightsAll,List.mem_append]
  rcases List.mem_cons.1 hd with rfl | q
  ·exact .inl hn
  ·exact .inr (weights_all q hn)
theorem choose_list {α : Type} [Inhabited α] {Q : Nat→α→Prop} {n : Nat} (h : ∀ i,i < n→∃ a,Q i a) : ∃ f : Nat→α,∀ i,i < n→Q i (f i):=by
 classical
 refine ⟨fun i=>if g : i < n then Classical.choose (h i g) else default,fun i hi=>?_⟩
 simp only [dif_pos hi]
 exact Classical.choose_spec (h i hi)
end Go.Proofs

namespace Go.Proofs.YtdbjhcgogmfghaaGreatDoor
open Go Go.Abs Go.Nums Go.Proofs
open Go.ChangeShapes Go.WideShapes Go.ChangeAt Go.RowKit Go.Joins Go.Deep

set_option maxRecDepth 100000

theorem cellsInt : Tryz.prog.cellsOf 28 = 2:=by kernel_rfl
theorem cellsBool : Tryz.prog.cellsOf 4 = 1:=by kernel_rfl
theorem cellsLimbs : Tryz.prog.cellsOf 26 = 1:=by kernel_rfl
theorem bytesInt : Tryz.prog.bytesOf 28 = 32:=by kernel_rfl
theorem bytesU64 : Tryz.prog.bytesOf 55 = 8:=by kernel_rfl

theorem whole_cells {H : Type} {enc : TypeId × Value→H} {W : World} {n : Nat} {a : Addr} {cs : List Value} {d : DataW H} {p : List MemPlace} (hc : W.cells? 0 a 2 = some cs) (h : DataW.trod enc Tryz.prog W 0 (fun _=>true) true n 28 cs = some (d,p))
  (hw : ∀ n ∈ d.weights Tryz.prog 28,n ≤ reachBytes) : ∃ q : Bool × List Nat,rng B q.2∧q.2.length ≤ 17592186043904∧a.spot = none∧∃ v,W.cell? a = some (.bool q.1)∧W.cell? (a.add 1) = some v∧IntsS W (Fr W ρ0 S0) .u64 (U q.2) (U q.2).length v:=by
 obtain ⟨y0,y1,k,hx,hl,h0,h1⟩:=trod_struct2 Tryz.underlying28 h
 have hcs : W.cell? a = cs[0]?∧W.cell? (a.add 1) = cs[1]?∧cs.length = 2:=by
  simp only [World.cells?,Nat.zero_le,if_true] at hc
  simp only [show List.range 2 = [0,1] from rfl,List.mapM_cons,List.mapM_nil,Option.bind_eq_bind,Option.bind_eq_some_iff,Option.pure_def,Option.some.injEq] at hc
  obtain ⟨c0,e0,r,⟨c1,e1,r2,rfl,rfl⟩,rfl⟩:=hc
  exact ⟨by simpa [Addr.add] using e0,e1,rfl⟩
 obtain ⟨c0,c1,rfl⟩ : ∃ c0 c1,cs = [c0,c1]:=by
  match cs,hcs.2.2 with
  | [c0,c1],_=>exact ⟨c0,c1,rfl⟩
 have h0' : DataW.trod enc Tryz.prog W 0 (fun _=>true) true k 4 [c0] = some y0:=by simpa [cellsBool] using h0
 have h1' : DataW.trod enc Tryz.prog W 0 (fun _=>true) true k 26 [c1] = some y1:=by simpa [cellsLimbs] using h1
 obtain ⟨s,e0,hy0⟩:=DataW.trod_bool Tryz.underlying4 h0'
 simp only [List.cons.injEq,and_true] at e0
 subst e0
 obtain ⟨l,hr,hl2,ho,hi⟩:=limbs_in Tryz.underlying26 Tryz.underlying55 cellsU64 h1'
 simp only [Prod.mk.injEq] at hx
 have hsz:=limbs_sz (R:=reachBytes) (l:=l) Tryz.underlying26 Tryz.underlying55 cellsU64 h1' (fun n hn=>hw n (by
  rw [hx.1]
  simp only [DataW.weights,Tryz.underlying28]
  simp [DataW.weightsEach]
  exact .inr hn)) hi
 rw [bytesU64] at hsz
 have ha : W.cell? a = some (.bool s):=hcs.1
 exact ⟨(s,l),hr,by unfold reachBytes at hsz;show l.length ≤ _;omega,World.cell?_spot ha,c1,ha,hcs.2.1,hi⟩

theorem wholes_in {H : Type} {enc : TypeId × Value→H} {W : World} {base : Nat} {v : Value} {d : DataW H} {p : List MemPlace} (hv : Value.okWide Tryz.prog W .any base 22 v) (h : DataW.Trod enc Tryz.prog W 0 (fun _=>true) true 22 v d p)
  (hw : ∀ n ∈ d.weights Tryz.prog 22,n ≤ reachBytes) : ∃ xs : List (Bool × List Nat),(∀ q ∈ xs,rng B q.2)∧xs.length ≤ 4398046510976∧(∀ q ∈ xs,q.2.length ≤ 17592186043904)∧VS W ρ0 S0 (isq xs) v:=by
 obtain ⟨a0,len0,cap0,rfl⟩:=okWide_slice Tryz.underlying22 hv
 obtain ⟨fuel,hf⟩:=h
 rcases open_slice Tryz.underlying22 hf with ⟨hcs,hx⟩ | ⟨a,len,cap,m,n,D,Pl,hcs,hb,hl,hm,hmm,hx,hel⟩
 ·simp only [Value.cells,List.cons.injEq,and_true] at hcs
  exact ⟨[],(fun q hq=>by cases hq),Nat.zero_le _,(fun q hq=>by cases hq),none,0,hcs,Nat.le_refl _,Nat.le_refl _,(fun c hc=>by cases hc),fun q=>by simp at q⟩
 ·simp only [if_true] at hmm
  subst hmm
  simp only [Prod.mk.injEq] at hx
  simp only [Value.cells,List.cons.injEq,and_true] at hcs
  rw [cellsInt] at hel
  have hwd : ∀ i,i < len→∀ n ∈ (D i).weights Tryz.prog 28,n ≤ reachBytes:=fun i hi n hn=>hw n (by
   rw [hx.1]
   simp only [DataW.weights,Tryz.underlying22,List.mem_cons,List.mem_append]
   exact .inr (.inl (weights_all (List.mem_map.2 ⟨i,List.mem_range.2 hi,rfl⟩) hn)))
  have hwl : (len + (m - len)) * 32 ≤ reachBytes:=hw _ (by
   rw [hx.1]
   simp only [DataW.weights,Tryz.underlying22,List.mem_cons,List.length_map,List.length_range,bytesInt]
   exact .inl trivial)
  obtain ⟨f,hfi⟩:=choose_list (Q:=fun i (q : Bool × List Nat)=>rng B q.2∧q.2.length ≤ 17592186043904∧(a.add (i * 2)).spot = none∧∃ v,W.cell? (a.add (i * 2)) = some (.bool q.1)∧W.cell? ((a.add (i * 2)).add 1) = some v∧IntsS W (Fr W ρ0 S0) .u64 (U q.2) (U q.2).length v) (n:=len) fun i hi=>by
   obtain ⟨cs',h1,h2⟩:=hel i (by omega)
   exact whole_cells h1 h2 (hwd i hi)
  have hxl : (((List.range len).map f).map rowI).length = len:=by simp
  refine ⟨(List.range len).map f,fun q hq=>?_,by rw [List.length_map,List.length_range];unfold reachBytes at hwl;omega,fun q hq=>?_,some a,m,?_,Nat.le_refl _,by rw [hxl];exact hl,fun c hc=>?_,fun q=>?_⟩
  ·obtain ⟨i,hi,rfl⟩:=List.mem_map.1 hq
   exact (hfi i (List.mem_range.1 hi)).1
  ·obtain ⟨i,hi,rfl⟩:=List.mem_map.1 hq
   exact (hfi i (List.mem_range.1 hi)).2.1
  ·rw [hxl];exact hcs
  ·obtain ⟨q,-,rfl⟩:=List.mem_map.1 hc
   rfl
  ·rw [hxl] at q
   have ha0 : a.spot = none:=by
    have:=(hfi 0 q).2.2.1
    simpa [Addr.add] using this
   obtain ⟨b,off,spot⟩:=a
   have ha0 : spot = none:=ha0
   subst ha0
   refine ⟨b,off,rfl,⟨?_,fun m o hm=>by cases hm⟩,fun i c j x hi hj=>?_⟩
   ·obtain ⟨-,-,-,v,h1,-⟩:=hfi 0 q
    rw [Nat.zero_mul,Go.WideShapes.add_plain] at h1
    refine Nat.lt_of_not_le fun g=>?_
    rw [World.cell?] at h1
    simp [Array.getElem?_eq_none g] at h1
   ·rw [List.getElem?_map,List.getElem?_map] at hi
    by_cases hil : i < len
    ·rw [List.getElem?_range hil] at hi
     cases hi
     obtain ⟨-,-,-,v,h1,h2,h3⟩:=hfi i hil
     rw [Go.WideShapes.add_plain] at h1 h2
     rw [Go.WideShapes.add_plain] at h2
     match j with
     | 0=>cases hj;exact ⟨_,h1,.sc rfl⟩
     | 1=>cases hj;exact ⟨v,h2,.ints h3⟩
     | j + 2=>cases hj
    ·rw [List.getElem?_eq_none (by simp;omega)] at hi
     cases hi
end Go.Proofs.YtdbjhcgogmfghaaGreatDoor
