/-
  Contracts of functions: part Nf (no statement by itself).
-/
import Derived.Test.YtdbjhcgogmfghaaGreatDoorNb
import Derived.Test.YtdbjhcgogmfghaaGreatDoorNe
import Derived.Test.YtdbjhcgogmfghaaGreatDoorNd
import Derived.Test.YtdbjhcgogmfghaaGreatDoorMah
import Derived.Test.YtdbjhcgogmfghaaGreatDoorMag
set_option linter.unusedVariables false
set_option linter.unusedSimpArgs false
set_option linter.unnecessarySimpa false

/-
  What the statements share: SameLimbs, SameInt, Small, Pick, Whole.Int, Above.
-/
namespace Go.Proofs
open Go Go.Abs Go.Nums
attribute [local irreducible] thenA blockA awp aw Stp EndF EndP EndN EndG aOps
set_option linter.unusedSimpArgs false
set_option maxHeartbeats 4000000

theorem c_samelimbs (l m : List Nat) (hl : l.length < 2 ^ 60) (hm : m.length < 2 ^ 60) : AFun Tryz.prog 68 [us l,us m] (bvl (decide (l = m))):=by
 refine aF (mu:=muF) Tryz.func68 fun S hS=>?_
 repeat refine gN ?_
 (refine zw ?_;refine s_cmp (fun h1=>?_) (fun h1=>?_))
 ·repeat refine gN ?_
  (refine eF hS ?_ (fl':=[(4,bvl (decide (l = m)))]);(repeat' (first | refine fJ ?_ ?_ | exact True.intro);all_goals (try (first | exact kv | (refine kW (ov_of lks) rfl ?_ ?_)))))
  exact kB (by rw [decide_eq_false];intro q;subst q;omega)
 repeat refine gN ?_
 refine awp_rep (ι:=Nat) (fun i=>⟨lk' [(0,us l),(1,us m),(5,iv i)],ov [] (pushS S)⟩) (fun i=>i ≤ l.length∧l.take i = m.take i) (fun i=>l.length - i) 0 ⟨Nat.zero_le _,rfl⟩ ?_ ?_
 ·(refine fz hS ?_ ?_;all_goals (repeat' (first | refine fJ ?_ ?_ | exact True.intro));all_goals (try (first | exact kv | (refine kW (ov_of lks) rfl ?_ ?_))))
 rintro i ⟨h2,h3⟩
 repeat refine gN ?_
 (refine zw ?_;refine s_cmp (fun h4=>?_) (fun h4=>?_))
 ·repeat refine gN ?_
  (refine zw ?_;refine s_cmp (fun h5=>?_) (fun h5=>?_))
  ·repeat refine gN ?_
   (refine eF hS ?_ (fl':=[(4,bvl (decide (l = m)))]);(repeat' (first | refine fJ ?_ ?_ | exact True.intro);all_goals (try (first | exact kv | (refine kW (ov_of lks) rfl ?_ ?_)))))
   exact kB (by rw [decide_eq_false];intro q;subst q;omega)
  ·repeat refine gN ?_
   refine ⟨i + 1,?_,⟨by omega,?_⟩,by omega⟩
   ·(refine fz hS ?_ ?_;all_goals (repeat' (first | refine fJ ?_ ?_ | exact True.intro));all_goals (try (first | exact kv | (refine kW (ov_of lks) rfl ?_ ?_))))
   ·rw [take_snoc0 (by omega),take_snoc0 (by omega),h3];congr 2;omega
 ·repeat refine gN ?_
  rw [take_all (by omega),take_all (by omega)] at h3
  (refine eF hS ?_ (fl':=[(4,bvl (decide (l = m)))]);(repeat' (first | refine fJ ?_ ?_ | exact True.intro);all_goals (try (first | exact kv | (refine kW (ov_of lks) rfl ?_ ?_)))))
  exact kB (by rw [decide_eq_true h3])

theorem c_sameint (s t : Bool) (l m : List Nat) (hl : l.length < 2 ^ 60) (hm : m.length < 2 ^ 60) : AFun Tryz.prog 26 [wi s l,wi t m] (bvl (decide (s = t∧l = m))):=by
 by_cases e : s = t
 ·subst e
  refine aF (mu:=muF) Tryz.func26 fun S hS=>?_
  have e1 : (s == s) = true:=by simp
  repeat refine gN ?_
  rw [e1]
  repeat refine gN ?_
  (refine zw ?_;refine s_call (c_samelimbs l m hl hm) ?_)
  repeat refine gN ?_
  (refine eF hS ?_ (fl':=[(4,bvl (decide (s = s∧l = m)))]);(repeat' (first | refine fJ ?_ ?_ | exact True.intro);all_goals (try (first | exact kv | (refine kW (ov_of lks) rfl ?_ ?_)))))
  exact kB (by simp)
 ·refine aF (mu:=muF) Tryz.func26 fun S hS=>?_
  have e1 : (s == t) = false:=by simpa using e
  repeat refine gN ?_
  rw [e1]
  repeat refine gN ?_
  (refine eF hS ?_ (fl':=[(4,bvl (decide (s = t∧l = m)))]);(repeat' (first | refine fJ ?_ ?_ | exact True.intro);all_goals (try (first | exact kv | (refine kW (ov_of lks) rfl ?_ ?_)))))
  exact kB (by simp [e])

theorem c_small1 (n : Nat) (h : n < 2 ^ 62) : AFun Tryz.prog 22 [ivl .i64 n] (vz n):=by
 have hv : (Nu.mk false n 0).val = (n : Int):=by simp [Nu.val,sg]
 have hb : blen n ≤ 62:=(blen_le _ _).2 h
 refine aF (mu:=muF) Tryz.func22 fun S hS=>?_
 repeat refine gN ?_
 (refine zw ?_;refine s_call (c_numwhole1 n (by omega)) ?_)
 repeat refine gN ?_
 (refine zw ?_;refine s_call (c_tellint1 ⟨false,n,0⟩ 62 ⟨Int.le_refl _,show (blen n : Int) + 0 ≤ ((62 : Nat) : Int) by omega⟩ (by decide) (.inr (show (blen n : Int) + 0 ≤ 262144 by omega))) ?_)
 rw [hv]
 repeat refine gN ?_
 (refine eF hS ?_ (fl':=[(2,.c (.pim [.sc (.bool (decide ((n : Int) < 0))),.ints .u64 (U (digs B (n : Int).natAbs))]))]);(repeat' (first | refine fJ ?_ ?_ | exact True.intro);all_goals (try (first | exact kv | (refine kW (ov_of lks) rfl ?_ ?_)))))

theorem c_small2 (n : Nat) (h0 : 0 < n) (h : n < 2 ^ 62) : AFun Tryz.prog 22 [ivl .i64 (-(n : Int))] (vz (-(n : Int))):=by
 have hv : (Nu.mk true n 0).val = -(n : Int):=by simp [Nu.val,sg]
 have hb : blen n ≤ 62:=(blen_le _ _).2 h
 refine aF (mu:=muF) Tryz.func22 fun S hS=>?_
 repeat refine gN ?_
 (refine zw ?_;refine s_call (c_numwhole2 n h0 (by omega)) ?_)
 repeat refine gN ?_
 (refine zw ?_;refine s_call (c_tellint1 ⟨true,n,0⟩ 62 ⟨Int.le_refl _,show (blen n : Int) + 0 ≤ ((62 : Nat) : Int) by omega⟩ (by decide) (.inr (show (blen n : Int) + 0 ≤ 262144 by omega))) ?_)
 rw [hv]
 repeat refine gN ?_
 (refine eF hS ?_ (fl':=[(2,.c (.pim [.sc (.bool (decide (-(n : Int) < 0))),.ints .u64 (U (digs B (-(n : Int)).natAbs))]))]);(repeat' (first | refine fJ ?_ ?_ | exact True.intro);all_goals (try (first | exact kv | (refine kW (ov_of lks) rfl ?_ ?_)))))

theorem stp_remI {P : Program} {mu : FuncId→Bool} {ops : Array Oper} {fl : FL} {S' : Store} {K : St→Prop} {d : Nat} {ty t0 t1 : TypeId} {pos : String} {after : Array Edge} {x y : Operand} {a b : Int}
  (kk : K ⟨lk' ((d,ivl .i64 (a.tmod b)) :: fl),S'⟩) (hx : opO fl x = some (ivl .i64 a):=by exact rfl) (hy : opO fl y = some (ivl .i64 b):=by exact rfl) (h : b ≠ 0) :
  Stp P mu ops ⟨some d,.binOp .rem t0 x y t1,ty,pos,after,none⟩ ⟨lk' fl,S'⟩ K:=by
 refine stp_of hx hy ?_ kk
 simp only [binE,isShift]
 exact ⟨trivial,show b ≠ 0∧_ = ivl .i64 (a.tmod b) from ⟨h,rfl⟩⟩

end Go.Proofs

/-
  recur: Shortest's closures; lists of int64 copied.
-/
-- kv2
namespace Go.Proofs
open Go Go.Abs Go.Nums
attribute [local irreducible] thenA blockA awp aw Stp EndF EndP EndN EndG aOps aOpsM scopeA
set_option linter.unusedSimpArgs false
set_option maxHeartbeats 4000000

abbrev li (l : List Int) : AVal:=.c (.ints .i64 l)
abbrev pi64 (p : Int) : AVal:=.c (.pim [.sc (.int .i64 p)])

theorem tmod2 {x p : Int} (hp : 0 < p) : (x.tmod p + p).tmod p = x % p:=by
 have h1:=Int.tmod_lt_of_pos x hp
 have h2:=Int.lt_tmod_of_pos x hp
 rw [Int.tmod_eq_emod_of_nonneg (by omega),Int.add_emod_right]
 by_cases h : 0 ≤ x
 ·rw [Int.tmod_eq_emod_of_nonneg h,Int.emod_emod]
 ·have e:=Int.mul_tdiv_add_tmod x p
  have : x % p = (x.tmod p + p * x.tdiv p) % p:=by congr 1;omega
  rw [this,Int.add_mul_emod_self_left]

theorem c_mod1 (p x : Int) (hp : 0 < p) (hp2 : p < 4611686018427387904) (h1 : -9223372036854775808 ≤ x) (h2 : x < 9223372036854775808) :
  AFun Tryz.prog 76 [ivl .i64 x,pi64 p] (ivl .i64 (x % p)):=by
 have h3:=Int.tmod_lt_of_pos x hp
 have h4:=Int.lt_tmod_of_pos x hp
 have h6 : (x.tmod p + p) % p = x % p:=by rw [← Int.tmod_eq_emod_of_nonneg (by omega),tmod2 hp]
 refine aF (mu:=muF) Tryz.func76 fun S hS=>?_
 repeat refine gF ?_
 refine zw2 ?_
 refine stp_remI ?_ (h:=by omega)
 repeat refine gF ?_
 rw [h6]
 (refine eF hS ?_ (fl':=[(3,ivl .i64 (x % p))]);(repeat' (first | refine fJ ?_ ?_ | exact True.intro);all_goals (try (first | exact kvA | exact kOac | (refine kW (ov_of lks) rfl ?_ ?_)))))

theorem c_inv1 (p x : Int) (hp : 1 < p) (hp2 : p < 2147483648) (h1 : 0 < x) (h2 : x < p) (hg : Int.gcd x p = 1) :
  AFun Tryz.prog 77 [ivl .i64 x,pi64 p] (ivl .i64 (invE p x)):=by
 have lx : (digs B x.natAbs).length ≤ 1:=lim1 (by decide) (by omega)
 have lp : (digs B p.natAbs).length ≤ 1:=lim1 (by decide) (by omega)
 have hr:=invE_rng (p:=p) (x:=x) (by omega)
 refine aF (mu:=muF) Tryz.func77 fun S hS=>?_
 repeat refine gF ?_
 (refine zw ?_;refine s_call ((c_newint x (by omega) (by omega)).pim) ?_)
 repeat refine gF ?_
 (refine zw ?_;refine s_call ((c_newint p (by omega) (by omega)).pim) ?_)
 (refine zw ?_;refine s_proc (c_modinverse (.loc 4) (.sc (.bool false)) (.sc (.slice none 0 0)) x p hp hg (by omega) (by omega)) ?_ preX)
 (refine zw ?_;refine s_lendF (c_int64 (invE p x) (by omega) (by omega)) [.loc 4] (lvs1 (lvP List.mem_cons_self lks)) (lentX1 ⟨_,List.mem_cons_self,rfl⟩ lks) ?_)
 repeat refine gF ?_
 (refine eF hS ?_ (fl':=[(3,ivl .i64 (invE p x))]);(repeat' (first | refine fJ ?_ ?_ | exact True.intro);all_goals (try (first | exact kvA | exact kOac | (refine kW (ov_of lks) rfl ?_ ?_)))))

theorem c_cloneP (z : Nm) (L : List Int) (cm : Nat) (hl : L.length < 2 ^ 43) (h0 : 0 < L.length) :
  AProc Tryz.prog 80 [.c (.win z 0 L.length cm)] [(z,.ints 2 .i64 L)] [(z,.ints 2 .i64 L)] (li L):=by
 (refine aproc1 (mu:=muF) Tryz.func80 rfl (by decide) rfl (by decide) (Nat.le_of_ble_eq_true rfl) (by simp [AVal.at,AVal.at1,Cell.at]) (by simp [AVal.at,AVal.at1,Cell.at]) (by simp [AVal.at,AVal.at1,Cell.at]) nmX nmX fun S hS=>?_;simp only [List.map_cons,List.map_nil,AVal.map,AVal.map1,Cell.map])
 repeat refine gF ?_
 refine aw_winnil ttOk false h0 ?_
 repeat refine gF ?_
 (refine zw ?_;refine s_intsA ttOk ?_)
 repeat refine gF ?_
 have e : List.take L.length (List.drop 0 L) = L:=by simp
 refine zw1 ?_
 refine s_app8 ttOk (Y:=List.take L.length (List.drop 0 L)) ?_ ?_ ?_
 ·exact srcE_win lks (by omega)
 ·simp;omega
 rw [e]
 repeat refine gF ?_
 (refine endP1 ttOk (fl':=[(2,li L)]) (.inr rfl) hS lks nmX (by intro m hm;simp [lkS,addL,delL,Nm.isLoc,hm]) ?_ ?_ (by exact rfl) (by exact rfl) (by exact rfl))
 ·rfl
 ·(repeat' (first | refine fJ ?_ ?_ | exact True.intro);all_goals (try (first | exact kvA | exact kOac | (refine kW (ov_of lks) rfl ?_ ?_))))
  exact kAcc (ov_of lks) rfl rfl
end Go.Proofs

/-
  The laws of recur: small, is, SameLongs.
-/
-- kv2
namespace Go.Proofs
open Go Go.Abs Go.Nums
attribute [local irreducible] thenA blockA awp aw Stp EndF EndP EndN EndG aOps aOpsM scopeA
set_option linter.unusedSimpArgs false
set_option linter.unusedVariables false
set_option maxHeartbeats 4000000

theorem c_smallZ (x : Int) (h1 : -4611686018427387904 < x) (h2 : x < 4611686018427387904) : AFun Tryz.prog 22 [ivl .i64 x] (vz x):=by
 by_cases h : 0 ≤ x
 ·obtain ⟨n,rfl⟩:=Int.eq_ofNat_of_zero_le h
  exact c_small1 n (by omega)
 ·obtain ⟨n,hn⟩:=Int.eq_ofNat_of_zero_le (show 0 ≤ -x by omega)
  have e : x = -(n : Int):=by omega
  rw [e]
  exact c_small2 n (by omega) (by omega)

abbrev tInt : TypeId:=28
abbrev rowC (x : Int) : List Cell:=[.sc (.bool (decide (x < 0))),.ints .u64 (U (digs B x.natAbs))]

theorem rowC_nm (l : List Int) : ∀ c ∈ l.map rowC,∀ x ∈ c,∀ m,¬ x.at m:=fun c hc x hx m hm=>by
 obtain ⟨y,-,rfl⟩:=List.mem_map.1 hc
 simp only [List.mem_cons,List.not_mem_nil,or_false] at hx
 rcases hx with rfl | rfl <;> exact hm
theorem acc_nm0 {ty : TypeId} {sz : Nat} {R : List (List Cell)} (h : ∀ c ∈ R,∀ x ∈ c,∀ m,¬ x.at m) : (AObj.acc ty sz R).nm0:=fun x hx m hm=>by
 obtain ⟨c,hc,hxc⟩:=List.mem_flatten.1 hx
 exact h c hc x hxc m hm
theorem kAccZ {A B : Store} {m : Nm} {n : Nat} {ty : TypeId} {l : List Int} (hm : A m = some (.acc ty 2 (l.map rowC))) (hb : B m = none) : FrzV A B (.accv m n) (zsq l):=by
 refine .acc hm hb ?_
 have e : ((l.map zp).map rowI).map (·.map Leaf.cell) = l.map rowC:=by rw [List.map_map,List.map_map];rfl
 rw [e]
 refine ⟨rfl,fun i c c' h1 h2=>?_⟩
 rw [h1] at h2
 cases h2
 refine ⟨rfl,fun j x y hx hy=>?_⟩
 rw [hx] at hy
 cases hy
 exact .keep fun q hq=>absurd hq (rowC_nm l c (List.mem_of_getElem? h1) x (List.mem_of_getElem? hx) q)

theorem c_lawsmall (l : List Int) (hl : l.length < 2 ^ 40) (hr : ∀ x ∈ l,-4611686018427387904 < x∧x < 4611686018427387904) :
  AFun Tryz.prog 33 [li l] (zsq l):=by
 refine aF (mu:=muF) Tryz.func33 fun S hS=>?_
 repeat refine gN ?_
 refine awp_rep (fun i : Nat=>⟨lk' [(0,li l),(3,.accv (.loc 18) i),(4,iv i)],ov [(.loc 18,.acc tInt 2 ((l.take i).map rowC))] (pushS S)⟩) (fun i=>i ≤ l.length) (fun i=>l.length + 1 - i) 0 (Nat.zero_le _) ?_ ?_
 ·(refine fz hS ?_ ?_;all_goals (repeat' (first | refine fJ ?_ ?_ | exact True.intro));all_goals (try (first | exact kvA | exact kOac | (refine kW (ov_of lks) rfl ?_ ?_))))
  ·exact ⟨.inr ⟨fun _ h=>(by cases (show none = some _ from h)),_,_,rfl⟩,trivial⟩
  ·exact .nilA (ov_of rfl)
 intro i hi
 repeat refine gN ?_
 (refine zw ?_;refine s_cmp (fun g=>?_) (fun g=>?_))
 ·obtain ⟨x,hx⟩ : ∃ x,l[i]? = some x:=⟨_,List.getElem?_eq_getElem (by omega)⟩
  have hxr:=hr x (List.mem_of_getElem? hx)
  have hxD : l.getD i 0 = x:=by rw [List.getD_eq_getElem?_getD,hx];rfl
  repeat refine gN ?_
  rw [show (i : Int).toNat = i by omega,hxD]
  repeat refine gN ?_
  (refine zw ?_;refine s_call (c_smallZ x hxr.1 hxr.2) ?_)
  (refine zw ?_;refine s_bld (out:=rowC x) ttOk ?_)
  refine zw1 ?_
  refine s_appX ttOk (sz:=1) (nb:=32) (Y:=[rowC x]) ?_ ?_ ?_
  ·exact srcR_one lks rfl
  ·simp [maxLen];omega
  repeat refine gN ?_
  refine ⟨i + 1,?_,by omega,by omega⟩
  rw [List.take_add_one (l:=l),hx,Option.toList_some,List.map_append,List.map_singleton]
  (refine fz hS ?_ ?_;all_goals (repeat' (first | refine fJ ?_ ?_ | exact True.intro));all_goals (try (first | exact kvA | exact kOac | (refine kW (ov_of lks) rfl ?_ ?_))))
  rw [show l.take i = l.take i from rfl,← List.map_singleton (f:=rowC),← List.map_append]
  exact .of_nm0 (acc_nm0 (rowC_nm _))
 ·repeat refine gN ?_
  have : i = l.length:=by omega
  subst this
  rw [List.take_length]
  (refine eF hS ?_ (fl':=[(2,zsq l)]);(repeat' (first | refine fJ ?_ ?_ | exact True.intro);all_goals (try (first | exact kvA | exact kOac | (refine kW (ov_of lks) rfl ?_ ?_)))))
  exact kAccZ (ov_of lks) rfl

theorem c_lawis (s t : Bool) (l m : List Nat) (e f : Int) (hl : l.length < 2 ^ 60) (hm : m.length < 2 ^ 60) : AFun Tryz.prog 13 [wi s l,ivl .i64 e,wi t m,ivl .i64 f] (bvl (decide (e = f∧s = t∧l = m))):=by
 obtain ⟨R,hR⟩ : ∃ R,R = decide (e = f∧s = t∧l = m):=⟨_,rfl⟩
 rw [← hR]
 refine aF (mu:=muF) Tryz.func13 fun S hS=>?_
 repeat refine gN ?_
 (refine zw ?_;refine s_cmp (fun g=>?_) (fun g=>?_))
 ·repeat refine gN ?_
  (refine zw ?_;refine s_call (c_sameint s t l m hl hm) ?_)
  have e1 : decide (s = t∧l = m) = R:=by rw [hR];simp [g]
  rw [e1]
  repeat refine gN ?_
  (refine eF hS ?_ (fl':=[(8,bvl R)]);(repeat' (first | refine fJ ?_ ?_ | exact True.intro);all_goals (try (first | exact kvA | exact kOac | (refine kW (ov_of lks) rfl ?_ ?_)))))
 ·have e1 : R = false:=by rw [hR];simp [g]
  rw [e1]
  repeat refine gN ?_
  (refine eF hS ?_ (fl':=[(8,bvl false)]);(repeat' (first | refine fJ ?_ ?_ | exact True.intro);all_goals (try (first | exact kvA | exact kOac | (refine kW (ov_of lks) rfl ?_ ?_)))))

theorem c_samelongs (a b : List Int) (ha : a.length < 2 ^ 60) (hb : b.length < 2 ^ 60) : AFun Tryz.prog 36 [li a,li b] (bvl (decide (a = b))):=by
 obtain ⟨R,hR⟩ : ∃ R,R = decide (a = b):=⟨_,rfl⟩
 rw [← hR]
 refine aF (mu:=muF) Tryz.func36 fun S hS=>?_
 repeat refine gN ?_
 (refine zw ?_;refine s_cmp (fun g=>?_) (fun g=>?_))
 ·have e1 : R = false:=by rw [hR];exact decide_eq_false fun e=>g (by rw [e])
  rw [e1]
  repeat refine gN ?_
  (refine eF hS ?_ (fl':=[(4,bvl false)]);(repeat' (first | refine fJ ?_ ?_ | exact True.intro);all_goals (try (first | exact kvA | exact kOac | (refine kW (ov_of lks) rfl ?_ ?_)))))
 have hab : a.length = b.length:=by omega
 repeat refine gN ?_
 refine awp_rep (fun i : Nat=>⟨lk' [(0,li a),(1,li b),(5,iv i)],ov [] (pushS S)⟩) (fun i=>i ≤ a.length∧∀ j,j < i→a.getD j 0 = b.getD j 0) (fun i=>a.length + 1 - i) 0 ⟨Nat.zero_le _,fun j hj=>by omega⟩ ?_ ?_
 ·(refine fz hS ?_ ?_;all_goals (repeat' (first | refine fJ ?_ ?_ | exact True.intro));all_goals (try (first | exact kvA | exact kOac | (refine kW (ov_of lks) rfl ?_ ?_))))
 rintro i ⟨hi,hs⟩
 repeat refine gN ?_
 (refine zw ?_;refine s_cmp (fun g2=>?_) (fun g2=>?_))
 rotate_left
 ·have : i = a.length:=by omega
  have e : a = b:=by
   refine List.ext_getElem? fun j=>?_
   by_cases hj : j < a.length
   ·have:=hs j (by omega)
    rw [List.getD_eq_getElem?_getD,List.getD_eq_getElem?_getD,List.getElem?_eq_getElem hj,List.getElem?_eq_getElem (by omega)] at this
    rw [List.getElem?_eq_getElem hj,List.getElem?_eq_getElem (by omega)]
    exact congrArg some this
   ·rw [List.getElem?_eq_none (by omega),List.getElem?_eq_none (by omega)]
  have e1 : R = true:=by rw [hR];exact decide_eq_true e
  rw [e1]
  repeat refine gN ?_
  (refine eF hS ?_ (fl':=[(4,bvl true)]);(repeat' (first | refine fJ ?_ ?_ | exact True.intro);all_goals (try (first | exact kvA | exact kOac | (refine kW (ov_of lks) rfl ?_ ?_)))))
 repeat refine gN ?_
 (refine zw ?_;refine s_cmp (fun g3=>?_) (fun g3=>?_))
 ·have e1 : R = false:=by
   rw [hR]
   refine decide_eq_false fun e=>g3 ?_
   rw [e]
  rw [e1]
  repeat refine gN ?_
  (refine eF hS ?_ (fl':=[(4,bvl false)]);(repeat' (first | refine fJ ?_ ?_ | exact True.intro);all_goals (try (first | exact kvA | exact kOac | (refine kW (ov_of lks) rfl ?_ ?_)))))
 repeat refine gN ?_
 refine ⟨i + 1,?_,⟨by omega,fun j hj=>?_⟩,by omega⟩
 ·(refine fz hS ?_ ?_;all_goals (repeat' (first | refine fJ ?_ ?_ | exact True.intro));all_goals (try (first | exact kvA | exact kOac | (refine kW (ov_of lks) rfl ?_ ?_))))
 ·rcases Nat.lt_or_ge j i with q | q
  ·exact hs j q
  ·have : j = i:=by omega
   subst this
   have:=Decidable.not_not.1 g3
   simpa using this
end Go.Proofs
