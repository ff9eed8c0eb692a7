/-
  Contracts of functions: part Nd (no statement by itself).
-/
import Derived.Test.YtdbjhcgogmfghaaGreatDoorNb
import Derived.Test.YtdbjhcgogmfghaaGreatDoorMak
import Derived.Test.YtdbjhcgogmfghaaGreatDoorNc
import Derived.Test.YtdbjhcgogmfghaaGreatDoorMag
import Derived.Test.YtdbjhcgogmfghaaGreatDoorMah
set_option linter.unusedVariables false
set_option linter.unusedSimpArgs false
set_option linter.unnecessarySimpa false

/-
  bits: TrailingZeros64; big: TrailingZeroBits.
-/
namespace Go.Proofs
open Go Go.Abs Go.Nums
attribute [local irreducible] thenA blockA awp aw Stp EndF EndP EndN aOps
set_option linter.unusedSimpArgs false
set_option maxHeartbeats 4000000
set_option maxRecDepth 10000

theorem low_bit {x k q : Nat} (h : x = 2 ^ k * (2 * q + 1)) (hx : x < 2 ^ 64) : x &&& (18446744073709551616 - x) = 2 ^ k:=by
 have hp : 0 < 2 ^ k:=Nat.pow_pos (by decide)
 have h0 : x = (x - 1) + 1:=by
  have : 0 < x:=by rw [h];exact Nat.mul_pos hp (by omega)
  omega
 have hk : k < 64:=by
  refine Nat.lt_of_not_le fun g=>?_
  have h1 : 2 ^ 64 ≤ 2 ^ k:=Nat.pow_le_pow_right (by decide) g
  have h2 : 2 ^ k * 1 ≤ 2 ^ k * (2 * q + 1):=Nat.mul_le_mul_left _ (by omega)
  omega
 have e1 : x = 2 ^ k * (2 * q + 1) + 0:=h
 have e2 : x - 1 = 2 ^ k * (2 * q) + (2 ^ k - 1):=by rw [h,Nat.mul_add];omega
 apply Nat.eq_of_testBit_eq
 intro i
 rw [Nat.testBit_and,show (18446744073709551616 : Nat) - x = 2 ^ 64 - ((x - 1) + 1) by omega,Nat.testBit_two_pow_sub_succ (by omega),e2,Nat.testBit_two_pow_mul_add _ (by omega),Nat.testBit_two_pow]
 rw [show x.testBit i = (2 ^ k * (2 * q + 1) + 0).testBit i by rw [← e1],Nat.testBit_two_pow_mul_add _ hp]
 by_cases h1 : i < k
 ·simp [h1];omega
 ·rw [if_neg h1,if_neg h1]
  by_cases h2 : i = k
  ·subst h2;simp [hk]
  ·obtain ⟨j,hj⟩ : ∃ j,i - k = j + 1:=⟨i - k - 1,by omega⟩
   have h3 : ¬ k = i:=fun e=>h2 e.symm
   rw [hj,Nat.testBit_succ,Nat.testBit_succ,show (2 * q + 1) / 2 = q by omega,show 2 * q / 2 = q by omega]
   cases q.testBit j <;> simp [h3]

def tab64 : List Int:=[0,1,56,2,57,49,28,3,61,58,42,50,38,29,17,4,62,47,59,36,45,43,51,22,53,39,33,30,24,18,12,5,63,55,48,27,60,41,37,16,46,35,44,21,52,32,23,11,54,26,40,15,34,20,31,10,25,14,19,9,13,8,7,6]
theorem tab64_at : ∀ k : Fin 64,tab64.getD (2 ^ k.1 * 285870213051353865 % 18446744073709551616 / 2 ^ 58) 0 = (k.1 : Int):=by decide
theorem drop_tab {l : List Int} {j : Nat} (h : j < l.length) : (l.map fun n=>Leaf.sc (.int .u8 n)).drop j = .sc (.int .u8 (l.getD j 0)) :: (l.map fun n=>Leaf.sc (.int .u8 n)).drop (j + 1):=by
 rw [List.drop_eq_getElem_cons (by simpa using h),List.getElem_map,List.getD_eq_getElem?_getD,List.getElem?_eq_getElem h];rfl

theorem c_tz64 (x k q : Nat) (h : x = 2 ^ k * (2 * q + 1)) (hx : x < 18446744073709551616) : AFun Tryz.prog 171 [uv x] (iv k):=by
 refine aF (mu:=muF) Tryz.func171 fun S hS=>?_
 have hp : 0 < 2 ^ k:=Nat.pow_pos (by decide)
 have h0 : 0 < x:=by rw [h];exact Nat.mul_pos hp (by omega)
 have hk : k < 64:=by
  refine Nat.lt_of_not_le fun g=>?_
  have h1 : 2 ^ 64 ≤ 2 ^ k:=Nat.pow_le_pow_right (by decide) g
  have h2 : 2 ^ k * 1 ≤ 2 ^ k * (2 * q + 1):=Nat.mul_le_mul_left _ (by omega)
  omega
 have hb:=low_bit h hx
 repeat refine gN ?_
 (refine zw ?_;refine s_cmp (fun g=>?_) (fun g=>?_))
 ·exact absurd g (by omega)
 repeat refine gN ?_
 (refine zw ?_;refine stp_pure ttOk false (by exact rfl) siX ?_)
 rw [wrap_u64i,show (0 - (x : Int)) % 18446744073709551616 = ((18446744073709551616 - x : Nat) : Int) by omega]
 repeat refine gN ?_
 (first | refine stp_andN (x) (18446744073709551616 - x) (by exact rfl) (by exact rfl) siX siX siX siX ?_ | refine aw_cons (stp_andN (x) (18446744073709551616 - x) (by exact rfl) (by exact rfl) siX siX siX siX ?_) | refine aOps_cons (stp_andN (x) (18446744073709551616 - x) (by exact rfl) (by exact rfl) siX siX siX siX ?_))
 rw [hb]
 (first | refine stp_mulW (2 ^ k) (285870213051353865) (by exact rfl) (by exact rfl) siX siX ?_ | refine aw_cons (stp_mulW (2 ^ k) (285870213051353865) (by exact rfl) (by exact rfl) siX siX ?_) | refine aOps_cons (stp_mulW (2 ^ k) (285870213051353865) (by exact rfl) (by exact rfl) siX siX ?_))
 have hm : 2 ^ k * 285870213051353865 % 18446744073709551616 < 18446744073709551616:=Nat.mod_lt _ (by decide)
 (first | refine stp_shrN (2 ^ k * 285870213051353865 % 18446744073709551616) (58) (by exact rfl) (by exact rfl) siX siX siX ?_ | refine aw_cons (stp_shrN (2 ^ k * 285870213051353865 % 18446744073709551616) (58) (by exact rfl) (by exact rfl) siX siX siX ?_) | refine aOps_cons (stp_shrN (2 ^ k * 285870213051353865 % 18446744073709551616) (58) (by exact rfl) (by exact rfl) siX siX siX ?_))
 have hj : 2 ^ k * 285870213051353865 % 18446744073709551616 / 2 ^ 58 < 64:=by rw [Nat.div_lt_iff_lt_mul (by decide)];exact Nat.lt_of_lt_of_le hm (by decide)
 have ht:=tab64_at ⟨k,hk⟩
 simp only at ht
 obtain ⟨j,hjj⟩ : ∃ j,j = 2 ^ k * 285870213051353865 % 18446744073709551616 / 2 ^ 58:=⟨_,rfl⟩
 rw [← hjj] at hj ht ⊢
 repeat refine gN ?_
 have ed : List.drop (j : Int).toNat (tab64.map fun n=>Leaf.sc (.int .u8 n)) = .sc (.int .u8 k) :: (tab64.map fun n=>Leaf.sc (.int .u8 n)).drop (j + 1):=by
  rw [show (j : Int).toNat = j by omega,drop_tab (by exact hj),ht]
 erw [ed]
 repeat refine gN ?_
 (refine eF hS ?_ (fl':=[(2,iv k)]);(repeat' (first | refine fJ ?_ ?_ | exact True.intro);all_goals (try (first | exact kv | (refine kW (ov_of lks) rfl ?_ ?_)))))

theorem odd_mod {a j : Nat} : (2 * a + 1) % 2 ^ (j + 1) = 2 * (a % 2 ^ j) + 1:=by
 rw [Nat.pow_succ,Nat.mul_comm (2 ^ j) 2,Nat.mod_mul,show (2 * a + 1) / 2 = a by omega]
 omega

theorem first_dig {v k q : Nat} (h : v = 2 ^ k * (2 * q + 1)) : (∀ i,i < k / 64→(digs B v).getD i 0 = 0)∧∃ p,(digs B v).getD (k / 64) 0 = 2 ^ (k % 64) * (2 * p + 1):=by
 refine ⟨fun i hi=>?_,(q % 2 ^ (63 - k % 64)),?_⟩
 ·rw [digs_getD hB,h,show B = 2 ^ 64 from rfl,← Nat.pow_mul]
  have e : 2 ^ k = 2 ^ (64 * i) * (2 ^ 64 * 2 ^ (k - 64 * i - 64)):=by rw [← Nat.pow_add,← Nat.pow_add];congr 1;omega
  rw [e,Nat.mul_assoc,Nat.mul_div_cancel_left _ (Nat.pow_pos (by decide)),Nat.mul_assoc,Nat.mul_mod_right]
 ·rw [digs_getD hB,h,show B = 2 ^ 64 from rfl,← Nat.pow_mul]
  have e : 2 ^ k = 2 ^ (64 * (k / 64)) * 2 ^ (k % 64):=by rw [← Nat.pow_add];congr 1;omega
  have e2 : (2 : Nat) ^ 64 = 2 ^ (k % 64) * 2 ^ (63 - k % 64 + 1):=by rw [← Nat.pow_add];congr 1;omega
  rw [e,Nat.mul_assoc,Nat.mul_div_cancel_left _ (Nat.pow_pos (by decide)),e2,Nat.mul_mod_mul_left,odd_mod]

theorem c_tzb (n : Int) (k q : Nat) (h : n.natAbs = 2 ^ k * (2 * q + 1)) (hn : (digs B n.natAbs).length < 2 ^ 40) : AFun Tryz.prog 163 [bp n] (uv k):=by
 refine aF (mu:=muF) Tryz.func163 fun S hS=>?_
 have hU:=U_len (digs B n.natAbs)
 obtain ⟨hz,p,hp⟩:=first_dig h
 have hpos : 0 < 2 ^ (k % 64):=Nat.pow_pos (by decide)
 have hlt : (digs B n.natAbs).getD (k / 64) 0 < 18446744073709551616:=getD_lt (by decide) (rng_digs hB _) _
 have hne : (digs B n.natAbs).getD (k / 64) 0 ≠ 0:=by
  rw [hp];have:=Nat.mul_pos hpos (show 0 < 2 * p + 1 by omega);omega
 have hin : k / 64 < (digs B n.natAbs).length:=by
  refine Nat.lt_of_not_le fun g=>hne ?_
  rw [List.getD_eq_getElem?_getD,List.getElem?_eq_none g];rfl
 repeat refine gN ?_
 refine awp_rep (fun i : Nat=>⟨lk' [(0,bp n),(8,us (digs B n.natAbs)),(9,iv (digs B n.natAbs).length),(10,iv i)],ov [] (pushS S)⟩) (fun i=>i ≤ k / 64) (fun i=>k / 64 + 1 - i) 0 (Nat.zero_le _) ?_ ?_
 ·(refine fz hS ?_ ?_;all_goals (repeat' (first | refine fJ ?_ ?_ | exact True.intro));all_goals (try (first | exact kv | (refine kW (ov_of lks) rfl ?_ ?_))))
 intro i hi
 repeat refine gN ?_
 (refine zw ?_;refine s_cmp (fun g=>?_) (fun g=>?_))
 ·repeat refine gN ?_
  (refine zw ?_;refine s_cmp (fun g2=>?_) (fun g2=>?_))
  ·have ei : i = k / 64:=Nat.le_antisymm hi (Nat.le_of_not_lt fun q=>by have:=hz i q;omega)
   subst ei
   repeat refine gN ?_
   (refine zw ?_;refine s_call (c_tz64 _ _ _ hp hlt) ?_)
   repeat refine gN ?_
   (refine eF hS ?_ (fl':=[(2,uv k)]);(repeat' (first | refine fJ ?_ ?_ | exact True.intro);all_goals (try (first | exact kv | (refine kW (ov_of lks) rfl ?_ ?_)))))
   all_goals exact kN (by push_cast;omega)
  ·repeat refine gN ?_
   have hik : i < k / 64:=by
    refine Nat.lt_of_le_of_ne hi fun e=>?_
    subst e;omega
   refine ⟨i + 1,?_,by omega,by omega⟩
   (refine fz hS ?_ ?_;all_goals (repeat' (first | refine fJ ?_ ?_ | exact True.intro));all_goals (try (first | exact kv | (refine kW (ov_of lks) rfl ?_ ?_))))
 ·exact absurd g (by omega)
end Go.Proofs

/-
  recur: right.
-/
-- kv2
namespace Go.Proofs
open Go Go.Abs Go.Nums
attribute [local irreducible] thenA blockA awp aw Stp EndF EndP EndN EndG aOps
set_option linter.unusedSimpArgs false
set_option maxHeartbeats 4000000

abbrev rowI (p : Bool × List Nat) : List Leaf:=[.sc (.bool p.1),.ints .u64 (U p.2)]
abbrev isq (xs : List (Bool × List Nat)) : AVal:=.c (.seq 2 (xs.map rowI))
theorem rowI_get {xs : List (Bool × List Nat)} {j : Nat} {p : Bool × List Nat} (h : xs[j]? = some p) : (xs.map rowI).getD j [] = rowI p:=by
 rw [List.getD_eq_getElem?_getD,List.getElem?_map,h];rfl

theorem c_right1 (s : Bool) (l : List Nat) (hl : l.length < 2 ^ 60) : AFun Tryz.prog 87 [wi s l] (bvl (!rightB s l)):=by
 refine aF (mu:=muF) Tryz.func87 fun S hS=>?_
 repeat refine gN ?_
 (refine zw ?_;refine s_call (c_right13 s l hl) ?_)
 repeat refine gN ?_
 (refine eF hS ?_ (fl':=[(2,bvl (!rightB s l))]);(repeat' (first | refine fJ ?_ ?_ | exact True.intro);all_goals (try (first | exact kvA | exact kOac | (refine kW (ov_of lks) rfl ?_ ?_)))))

def badAt (xs : List (Bool × List Nat)) : Int:=match xs.findIdx? (fun p=>!rightB p.1 p.2) with | some i=>i | none=>-1

theorem badAt_of {xs : List (Bool × List Nat)} {i : Nat} {p : Bool × List Nat} (hp : xs[i]? = some p) (hb : rightB p.1 p.2 = false) (hr : ∀ j q,j < i→xs[j]? = some q→rightB q.1 q.2 = true) : badAt xs = i:=by
 have hlt:=(List.getElem?_eq_some_iff.1 hp).1
 have : xs.findIdx? (fun p=>!rightB p.1 p.2) = some i:=by
  rw [List.findIdx?_eq_some_iff_getElem]
  refine ⟨hlt,?_,fun j hj=>?_⟩
  ·have e:=List.getElem?_eq_getElem hlt;rw [hp] at e;rw [← Option.some.inj e,hb];rfl
  ·simp [hr j _ hj (List.getElem?_eq_getElem (by omega))]
 rw [badAt,this]
theorem badAt_none {xs : List (Bool × List Nat)} (hr : ∀ (j : Nat) (q : Bool × List Nat),xs[j]? = some q→rightB q.1 q.2 = true) : badAt xs = -1:=by
 have : xs.findIdx? (fun p=>!rightB p.1 p.2) = none:=by
  rw [List.findIdx?_eq_none_iff]
  intro p hp
  obtain ⟨j,hj⟩:=List.getElem?_of_mem hp
  simp [hr j p hj]
 rw [badAt,this]

theorem c_indexfunc (xs : List (Bool × List Nat)) (hl : xs.length < 2 ^ 43) (hx : ∀ p ∈ xs,p.2.length < 2 ^ 60) :
  AFun Tryz.prog 131 [isq xs,.fn 87 []] (ivl .i64 (badAt xs)):=by
 refine aF (mu:=muF) Tryz.func131 fun S hS=>?_
 have hU : (xs.map rowI).length = xs.length:=List.length_map _
 repeat refine gN ?_
 refine awp_rep (fun i : Nat=>⟨lk' [(0,isq xs),(1,.fn 87 []),(6,isq xs),(7,iv xs.length),(8,iv i)],ov [] (pushS S)⟩) (fun i=>i ≤ xs.length∧∀ j p,j < i→xs[j]? = some p→rightB p.1 p.2 = true) (fun i=>xs.length + 1 - i) 0 ⟨Nat.zero_le _,fun j p h=>by omega⟩ ?_ ?_
 ·(refine fz hS ?_ ?_;all_goals (repeat' (first | refine fJ ?_ ?_ | exact True.intro));all_goals (try (first | exact kvA | exact kOac | (refine kW (ov_of lks) rfl ?_ ?_))))
 rintro i ⟨hi,hr⟩
 repeat refine gN ?_
 (refine zw ?_;refine s_cmp (fun g=>?_) (fun g=>?_))
 ·obtain ⟨p,hp⟩ : ∃ p,xs[i]? = some p:=⟨_,List.getElem?_eq_getElem (by omega)⟩
  repeat refine gN ?_
  rw [show (i : Int).toNat = i by omega,rowI_get hp]
  repeat refine gN ?_
  (refine zw ?_;refine s_callG (c_right1 p.1 p.2 (hx p (List.mem_of_getElem? hp))) ?_)
  repeat refine gN ?_
  refine awp_if (by exact rfl) (fun g2=>?_) (fun g2=>?_)
  ·have hb : rightB p.1 p.2 = false:=by simpa using g2
   repeat refine gN ?_
   (refine eF hS ?_ (fl':=[(4,ivl .i64 (badAt xs))]);(repeat' (first | refine fJ ?_ ?_ | exact True.intro);all_goals (try (first | exact kvA | exact kOac | (refine kW (ov_of lks) rfl ?_ ?_)))))
   all_goals exact kN (badAt_of hp hb hr).symm
  ·have hb : rightB p.1 p.2 = true:=by simpa using g2
   repeat refine gN ?_
   refine ⟨i + 1,?_,⟨by omega,fun j q hj hq=>?_⟩,by omega⟩
   ·(refine fz hS ?_ ?_;all_goals (repeat' (first | refine fJ ?_ ?_ | exact True.intro));all_goals (try (first | exact kvA | exact kOac | (refine kW (ov_of lks) rfl ?_ ?_))))
   ·rcases Nat.lt_or_eq_of_le (Nat.le_of_lt_succ hj) with h | rfl
    ·exact hr j q h hq
    ·rw [hp] at hq;obtain rfl:=Option.some.inj hq;exact hb
 ·repeat refine gN ?_
  (refine eF hS ?_ (fl':=[(4,ivl .i64 (badAt xs))]);(repeat' (first | refine fJ ?_ ?_ | exact True.intro);all_goals (try (first | exact kvA | exact kOac | (refine kW (ov_of lks) rfl ?_ ?_)))))
  all_goals exact kN (badAt_none fun j q hq=>hr j q (by have:=(List.getElem?_eq_some_iff.1 hq).1;omega) hq).symm

theorem c_containsfunc (xs : List (Bool × List Nat)) (hl : xs.length < 2 ^ 43) (hx : ∀ p ∈ xs,p.2.length < 2 ^ 60) :
  AFun Tryz.prog 86 [isq xs,.fn 87 []] (bvl (decide (0 ≤ badAt xs))):=by
 refine aF (mu:=muF) Tryz.func86 fun S hS=>?_
 repeat refine gN ?_
 (refine zw ?_;refine s_call (c_indexfunc xs hl hx) ?_)
 repeat refine gN ?_
 (refine zw ?_;refine s_cmp (fun g=>?_) (fun g=>?_))
 ·repeat refine gN ?_
  (refine eF hS ?_ (fl':=[(4,bvl (decide (0 ≤ badAt xs)))]);(repeat' (first | refine fJ ?_ ?_ | exact True.intro);all_goals (try (first | exact kvA | exact kOac | (refine kW (ov_of lks) rfl ?_ ?_)))))
  all_goals exact kB (decide_eq_true g).symm
 ·repeat refine gN ?_
  (refine eF hS ?_ (fl':=[(4,bvl (decide (0 ≤ badAt xs)))]);(repeat' (first | refine fJ ?_ ?_ | exact True.intro);all_goals (try (first | exact kvA | exact kOac | (refine kW (ov_of lks) rfl ?_ ?_)))))
  all_goals exact kB (decide_eq_false g).symm

def allR (xs : List (Bool × List Nat)) : Bool:=xs.all fun p=>rightB p.1 p.2
theorem allR_bad (xs : List (Bool × List Nat)) : (!decide (0 ≤ badAt xs)) = allR xs:=by
 unfold badAt allR
 cases e : xs.findIdx? (fun p=>!rightB p.1 p.2) with
 | none =>
  rw [List.findIdx?_eq_none_iff] at e
  simp only [Int.reduceNeg,Int.reduceLE,decide_false,Bool.not_false]
  exact (List.all_eq_true.2 fun p hp=>by simpa using e p hp).symm
 | some i =>
  obtain ⟨h1,h2,-⟩:=List.findIdx?_eq_some_iff_getElem.1 e
  simp only [Int.natCast_nonneg,decide_true,Bool.not_true]
  symm
  rw [List.all_eq_false]
  exact ⟨_,List.getElem_mem h1,by simpa using h2⟩

theorem c_rightall (xs : List (Bool × List Nat)) (hl : xs.length < 2 ^ 43) (hx : ∀ p ∈ xs,p.2.length < 2 ^ 60) : AFun Tryz.prog 41 [isq xs] (bvl (allR xs)):=by
 refine aF (mu:=muF) Tryz.func41 fun S hS=>?_
 repeat refine gN ?_
 (refine zw ?_;refine s_call (c_containsfunc xs hl hx) ?_)
 repeat refine gN ?_
 (refine eF hS ?_ (fl':=[(2,bvl (allR xs))]);(repeat' (first | refine fJ ?_ ?_ | exact True.intro);all_goals (try (first | exact kvA | exact kOac | (refine kW (ov_of lks) rfl ?_ ?_)))))
 all_goals exact kB (allR_bad xs)
end Go.Proofs

/-
  recur: numbers.
-/
-- kv2
namespace Go.Proofs
open Go Go.Abs Go.Nums
attribute [local irreducible] thenA blockA awp aw Stp EndF EndP EndN EndG EndH aOps
set_option linter.unusedSimpArgs false
set_option maxHeartbeats 4000000

abbrev tP : TypeId:=74
abbrev zp (n : Int) : Bool × List Nat:=(decide (n < 0),digs B n.natAbs)
abbrev zsq (ns : List Int) : AVal:=isq (ns.map zp)

theorem bo_nm0 (n : Int) : (bo n).nm0:=nmX

theorem c_exintZ (n : Int) (hn : (digs B n.natAbs).length < 2 ^ 36) : ANew Tryz.prog 51 [wi (zp n).1 (zp n).2] tBig (bL n):=by
 have h:=c_exint (decide (n < 0)) (digs B n.natAbs) (rng_digs hB _) hn (by intro h;rw [val_digs hB];have:=of_decide_eq_true h;omega)
 rw [val_digs hB,sg_same] at h
 exact h

theorem c_numbers (ns : List Int) (hl : ns.length < 2 ^ 40) (hn : ∀ n ∈ ns,(digs B n.natAbs).length < 2 ^ 36) :
  AMadeF Tryz.prog 42 [zsq ns] (fun n=>.accv n ns.length) (fun n=>accP tP (.fam n) ns.length) (ns.map bo):=by
 refine amadeF (mu:=muF) (ob:=fun g=>accP tP g ns.length) Tryz.func42 rfl (by decide) rfl (by decide) (Nat.le_of_ble_eq_true rfl) (by simp [nm0,AVal.at,AVal.at1,Cell.at]) (by intros;rfl) (by intro n m h;exact (show n = m from h).symm) ?_ ?_ ?_ fun S hS=>?_
 ·intro φ g;exact accP_map
 ·intro g x hx m hm;rw [List.length_map];exact accP_nm hx hm
 ·intro o ho;obtain ⟨n,-,rfl⟩:=List.mem_map.1 ho;exact bo_nm0 n
 have hU : ((ns.map zp).map rowI).length = ns.length:=by simp
 repeat refine gN ?_
 refine awp_rep (fun i : Nat=>⟨lk' [(0,zsq ns),(3,.accv (.loc 16) i),(6,zsq ns),(7,iv ns.length),(8,iv i)],ov ((.loc 16,accP tP (.fam (.loc 1000)) i) :: famL (.fam (.loc 1000)) 0 ((ns.take i).map bo)) (pushS S)⟩) (fun i=>i ≤ ns.length) (fun i=>ns.length + 1 - i) 0 (Nat.zero_le _) ?_ ?_
 ·(refine fz hS ?_ ?_;all_goals (repeat' (first | refine fJ ?_ ?_ | exact True.intro));all_goals (try (first | exact kvA | exact kOac | (refine kW (ov_of lks) rfl ?_ ?_))))
  ·exact ⟨.inr ⟨fun _ h=>(by cases (show none = some _ from h)),_,_,rfl⟩,trivial⟩
  ·exact .nilA (ov_of rfl)
 intro i hi
 repeat refine gN ?_
 (refine zw ?_;refine s_cmp (fun g=>?_) (fun g=>?_))
 ·obtain ⟨n,hp⟩ : ∃ n,ns[i]? = some n:=⟨_,List.getElem?_eq_getElem (by omega)⟩
  repeat refine gN ?_
  rw [show (i : Int).toNat = i by omega,rowI_get (p:=zp n) (by rw [List.getElem?_map,hp];rfl)]
  repeat refine gN ?_
  (refine zw ?_;refine s_new (c_exintZ n (hn n (List.mem_of_getElem? hp))) ?_)
  (refine zw ?_;refine s_bld (out:=[.ptr (.loc 14) 0]) ttOk ?_)
  (refine zw ?_;refine s_appP ([[.ptr (.loc 14) 0]]) ttOk (srcR_one lks rfl) ?_ ?_)
  ·simp [ptrsG_len];omega
  repeat refine gN ?_
  refine ⟨i + 1,?_,by omega,by omega⟩
  rw [List.take_add_one (l:=ns),hp,Option.toList_some,List.map_append,List.map_singleton]
  refine gathA0 (d:=14) (k:=i) (q:=1000) lks lks (bo_nm0 n) (fun j o hj=>?_) (by simp;omega) (by decide) (fun m=>?_) ?_
  ·refine ⟨by simp only [lkS,reduceCtorEq,if_false];rw [lkS_fam (fam_inj _)];exact hj,?_⟩
   obtain ⟨x,-,rfl⟩:=List.mem_map.1 (List.mem_of_getElem? hj);exact bo_nm0 x
  ·simp only [lkS,reduceCtorEq,if_false];exact lkS_famN (fun i e=>by cases e) _ _
  ·exact ⟨⟨_,rfl,rK⟩,⟨_,rfl,rA⟩,⟨_,rfl,rK⟩,⟨_,rfl,rK⟩,⟨_,rfl,rK⟩,trivial⟩
 ·repeat refine gN ?_
  have : i = ns.length:=by omega
  subst this
  rw [List.take_length]
  have hfam : ∀ j o,(ns.map bo)[j]? = some o→ov ((.loc 16,accP tP (.fam (.loc 1000)) ns.length) :: famL (.fam (.loc 1000)) 0 (ns.map bo)) (pushS S) (.fam (.loc 1000) j) = some o:=fun j o hj=>ov_of (by simp only [lkS,reduceCtorEq,if_false];rw [lkS_fam (fam_inj _)];exact hj)
  (refine endH ttOk (l:=(.loc 16)) (g:=.fam (.loc 1000)) (fl':=[(2,.accv (.loc 16) ns.length)]) (.inr rfl) hS (by exact rfl) (fun _=>⟨rfl,fun e=>by cases e⟩) ?_ ?_ ?_ ?_ (by exact rfl) (by exact rfl) (by exact rfl))
  ·exact fam_inj _
  ·intro m;simp only [lkS,reduceCtorEq,if_false];exact lkS_famN (fun i e=>by cases e) _ _
  ·refine frz_grp (ov_of rfl) (fun x hx q hq=>?_) (fun j o hj=>⟨hfam j o hj,?_⟩)
   ·obtain ⟨j,hj,rfl⟩:=accP_nm hx hq
    rw [hfam j _ (List.getElem?_eq_getElem (by simpa using hj))];simp
   ·obtain ⟨x,-,rfl⟩:=List.mem_map.1 (List.mem_of_getElem? hj);exact bo_nm0 x
  ·exact ⟨⟨_,rfl,kAccK (ov_of rfl) (ov_of rfl) rfl (by simp [ptrsG_len])⟩,trivial⟩
end Go.Proofs

/-
  recur: Term.
-/
-- kv2
namespace Go.Proofs
open Go Go.Abs Go.Nums
attribute [local irreducible] thenA blockA awp aw Stp EndF EndP EndN EndG EndH aOps
set_option linter.unusedSimpArgs false
set_option maxHeartbeats 4000000

abbrev psq (ns : List Int) : AVal:=.c (.seq 1 ((ns.map bL).map fun ls=>[.pim ls]))
abbrev oac (ns : List Int) : AObj:=.acc tP 1 ((ns.map bL).map fun ls=>[.pim ls])

def dotS (b l : List Int) : Nat→Int
 | 0=>0
 | i + 1=>dotS b l i + b.getD i 0 * l.getD (l.length - 1 - i) 0
abbrev dotR (b l : List Int) : Int:=dotS b l b.length
def extN (by_ : List Int) : Nat→List Int→Option (List Int)
 | 0,l=>some l
 | k + 1,l=>if 262144 < blen (dotR by_ l).natAbs then none else extN by_ k (l ++ [dotR by_ l])

theorem c_extold0 (n : Int) (hn : (digs B n.natAbs).length ≤ 4096) : AFun Tryz.prog 46 [bp n] (.tup [wz n,bvl true]):=by
 refine aF (mu:=muF) Tryz.func46 fun S hS=>?_
 have hU:=U_len (digs B n.natAbs)
 have hs : (Int.sign n < 0) ↔ n < 0:=Int.sign_neg_iff
 repeat refine gN ?_
 (refine zw ?_;refine s_call (c_sign n) ?_)
 repeat refine gN ?_
 (refine zw ?_;refine s_cmp (fun h=>?_) (fun h=>?_))
 ·rw [wz_neg (hs.1 h)]
  repeat refine gN ?_
  (refine zw ?_;refine s_call (c_limbs n (by omega)) ?_)
  repeat refine gN ?_
  (refine zw ?_;refine s_cmp (fun h2=>?_) (fun h2=>?_))
  ·omega
  repeat refine gN ?_
  (refine eF hS ?_ (fl':=[(2,.c (.pim [.sc (.bool true),.ints .u64 (U (digs B n.natAbs))])),(3,bvl true)]);(repeat' (first | refine fJ ?_ ?_ | exact True.intro);all_goals (try (first | exact kvA | exact kOac | (refine kW (ov_of lks) rfl ?_ ?_)))))
 ·rw [wz_pos (fun q=>h (hs.2 q))]
  repeat refine gN ?_
  (refine zw ?_;refine s_call (c_limbs n (by omega)) ?_)
  repeat refine gN ?_
  (refine zw ?_;refine s_cmp (fun h2=>?_) (fun h2=>?_))
  ·omega
  repeat refine gN ?_
  (refine eF hS ?_ (fl':=[(2,.c (.pim [.sc (.bool false),.ints .u64 (U (digs B n.natAbs))])),(3,bvl true)]);(repeat' (first | refine fJ ?_ ?_ | exact True.intro);all_goals (try (first | exact kvA | exact kOac | (refine kW (ov_of lks) rfl ?_ ?_)))))

theorem c_termBad (xs ys : List (Bool × List Nat)) (n : Int) (hx : xs.length < 2 ^ 43) (hx2 : ∀ p ∈ xs,p.2.length < 2 ^ 60) (hy : ys.length < 2 ^ 43) (hy2 : ∀ p ∈ ys,p.2.length < 2 ^ 60) (hb : allR xs = false ∨ allR ys = false) :
  AFun Tryz.prog 11 [isq xs,isq ys,ivl .i64 n] (.tup [w0,ivl .i64 2]):=by
 refine aF (mu:=muF) Tryz.func11 fun S hS=>?_
 cases h1 : allR xs with
 | false =>
  repeat refine gN ?_
  (refine zw ?_;refine s_call (c_rightall xs hx hx2) ?_)
  rw [h1]
  repeat refine gN ?_
  (refine eF hS ?_ (fl':=[(6,.c (.pim [.sc (.bool false),.ints .u64 []])),(7,ivl .i64 2)]);(repeat' (first | refine fJ ?_ ?_ | exact True.intro);all_goals (try (first | exact kvA | exact kOac | (refine kW (ov_of lks) rfl ?_ ?_)))))
 | true =>
  have h2 : allR ys = false:=hb.resolve_left (by rw [h1];simp)
  repeat refine gN ?_
  (refine zw ?_;refine s_call (c_rightall xs hx hx2) ?_)
  rw [h1]
  repeat refine gN ?_
  (refine zw ?_;refine s_call (c_rightall ys hy hy2) ?_)
  rw [h2]
  repeat refine gN ?_
  (refine eF hS ?_ (fl':=[(6,.c (.pim [.sc (.bool false),.ints .u64 []])),(7,ivl .i64 2)]);(repeat' (first | refine fJ ?_ ?_ | exact True.intro);all_goals (try (first | exact kvA | exact kOac | (refine kW (ov_of lks) rfl ?_ ?_)))))

theorem c_termShape (xs ys : List (Bool × List Nat)) (n : Int) (hx : xs.length < 2 ^ 43) (hx2 : ∀ p ∈ xs,p.2.length < 2 ^ 60) (hy : ys.length < 2 ^ 43) (hy2 : ∀ p ∈ ys,p.2.length < 2 ^ 60) (h1 : allR xs = true) (h2 : allR ys = true) (h3 : xs.length ≠ ys.length) :
  AFun Tryz.prog 11 [isq xs,isq ys,ivl .i64 n] (.tup [w0,ivl .i64 4]):=by
 refine aF (mu:=muF) Tryz.func11 fun S hS=>?_
 have hU1 : (xs.map rowI).length = xs.length:=List.length_map _
 have hU2 : (ys.map rowI).length = ys.length:=List.length_map _
 repeat refine gN ?_
 (refine zw ?_;refine s_call (c_rightall xs hx hx2) ?_)
 rw [h1]
 repeat refine gN ?_
 (refine zw ?_;refine s_call (c_rightall ys hy hy2) ?_)
 rw [h2]
 repeat refine gN ?_
 (refine zw ?_;refine s_cmp (fun g=>?_) (fun g=>?_))
 ·repeat refine gN ?_
  (refine eF hS ?_ (fl':=[(6,.c (.pim [.sc (.bool false),.ints .u64 []])),(7,ivl .i64 4)]);(repeat' (first | refine fJ ?_ ?_ | exact True.intro);all_goals (try (first | exact kvA | exact kOac | (refine kW (ov_of lks) rfl ?_ ?_)))))
 ·exact absurd g (by omega)

theorem c_termNeg (xs ys : List (Bool × List Nat)) (n : Int) (hx : xs.length < 2 ^ 43) (hx2 : ∀ p ∈ xs,p.2.length < 2 ^ 60) (hy : ys.length < 2 ^ 43) (hy2 : ∀ p ∈ ys,p.2.length < 2 ^ 60) (h1 : allR xs = true) (h2 : allR ys = true) (h3 : xs.length = ys.length) (h4 : n < 0) :
  AFun Tryz.prog 11 [isq xs,isq ys,ivl .i64 n] (.tup [w0,ivl .i64 2]):=by
 refine aF (mu:=muF) Tryz.func11 fun S hS=>?_
 have hU1 : (xs.map rowI).length = xs.length:=List.length_map _
 have hU2 : (ys.map rowI).length = ys.length:=List.length_map _
 repeat refine gN ?_
 (refine zw ?_;refine s_call (c_rightall xs hx hx2) ?_)
 rw [h1]
 repeat refine gN ?_
 (refine zw ?_;refine s_call (c_rightall ys hy hy2) ?_)
 rw [h2]
 repeat refine gN ?_
 (refine zw ?_;refine s_cmp (fun g=>?_) (fun g=>?_))
 ·exact absurd g (by omega)
 repeat refine gN ?_
 (refine zw ?_;refine s_cmp (fun g4=>?_) (fun g4=>?_))
 ·repeat refine gN ?_
  (refine eF hS ?_ (fl':=[(6,.c (.pim [.sc (.bool false),.ints .u64 []])),(7,ivl .i64 2)]);(repeat' (first | refine fJ ?_ ?_ | exact True.intro);all_goals (try (first | exact kvA | exact kOac | (refine kW (ov_of lks) rfl ?_ ?_)))))
 ·exact absurd g4 (by omega)

theorem c_termLong (xs ys : List (Bool × List Nat)) (n : Int) (hx : xs.length < 2 ^ 43) (hx2 : ∀ p ∈ xs,p.2.length < 2 ^ 60) (hy : ys.length < 2 ^ 43) (hy2 : ∀ p ∈ ys,p.2.length < 2 ^ 60) (h1 : allR xs = true) (h2 : allR ys = true) (h3 : xs.length = ys.length) (h4 : ¬ n < 0) (h5 : 64 < ys.length ∨ 4096 < n) :
  AFun Tryz.prog 11 [isq xs,isq ys,ivl .i64 n] (.tup [w0,ivl .i64 3]):=by
 refine aF (mu:=muF) Tryz.func11 fun S hS=>?_
 have hU1 : (xs.map rowI).length = xs.length:=List.length_map _
 have hU2 : (ys.map rowI).length = ys.length:=List.length_map _
 repeat refine gN ?_
 (refine zw ?_;refine s_call (c_rightall xs hx hx2) ?_)
 rw [h1]
 repeat refine gN ?_
 (refine zw ?_;refine s_call (c_rightall ys hy hy2) ?_)
 rw [h2]
 repeat refine gN ?_
 (refine zw ?_;refine s_cmp (fun g=>?_) (fun g=>?_))
 ·exact absurd g (by omega)
 repeat refine gN ?_
 (refine zw ?_;refine s_cmp (fun g4=>?_) (fun g4=>?_))
 ·exact absurd g4 (by omega)
 repeat refine gN ?_
 (refine zw ?_;refine s_cmp (fun g5=>?_) (fun g5=>?_))
 ·repeat refine gN ?_
  (refine eF hS ?_ (fl':=[(6,.c (.pim [.sc (.bool false),.ints .u64 []])),(7,ivl .i64 3)]);(repeat' (first | refine fJ ?_ ?_ | exact True.intro);all_goals (try (first | exact kvA | exact kOac | (refine kW (ov_of lks) rfl ?_ ?_)))))
 repeat refine gN ?_
 (refine zw ?_;refine s_cmp (fun g6=>?_) (fun g6=>?_))
 ·repeat refine gN ?_
  (refine eF hS ?_ (fl':=[(6,.c (.pim [.sc (.bool false),.ints .u64 []])),(7,ivl .i64 3)]);(repeat' (first | refine fJ ?_ ?_ | exact True.intro);all_goals (try (first | exact kvA | exact kOac | (refine kW (ov_of lks) rfl ?_ ?_)))))
 ·exact absurd g6 (by omega)

theorem c_termNil (xs ys : List (Bool × List Nat)) (n : Int) (hx : xs.length < 2 ^ 43) (hx2 : ∀ p ∈ xs,p.2.length < 2 ^ 60) (hy : ys.length < 2 ^ 43) (hy2 : ∀ p ∈ ys,p.2.length < 2 ^ 60) (h1 : allR xs = true) (h2 : allR ys = true) (h3 : xs.length = ys.length) (h4 : ¬ n < 0) (h5 : ¬ 64 < ys.length∧¬ 4096 < n) (h6 : ys.length = 0) :
  AFun Tryz.prog 11 [isq xs,isq ys,ivl .i64 n] (.tup [w0,ivl .i64 0]):=by
 refine aF (mu:=muF) Tryz.func11 fun S hS=>?_
 have hU1 : (xs.map rowI).length = xs.length:=List.length_map _
 have hU2 : (ys.map rowI).length = ys.length:=List.length_map _
 repeat refine gN ?_
 (refine zw ?_;refine s_call (c_rightall xs hx hx2) ?_)
 rw [h1]
 repeat refine gN ?_
 (refine zw ?_;refine s_call (c_rightall ys hy hy2) ?_)
 rw [h2]
 repeat refine gN ?_
 (refine zw ?_;refine s_cmp (fun g=>?_) (fun g=>?_))
 ·exact absurd g (by omega)
 repeat refine gN ?_
 (refine zw ?_;refine s_cmp (fun g4=>?_) (fun g4=>?_))
 ·exact absurd g4 (by omega)
 repeat refine gN ?_
 (refine zw ?_;refine s_cmp (fun g5=>?_) (fun g5=>?_))
 ·exact absurd g5 (by omega)
 repeat refine gN ?_
 (refine zw ?_;refine s_cmp (fun g6=>?_) (fun g6=>?_))
 ·exact absurd g6 (by omega)
 repeat refine gN ?_
 (refine zw ?_;refine s_cmp (fun g7=>?_) (fun g7=>?_))
 ·repeat refine gN ?_
  (refine eF hS ?_ (fl':=[(6,.c (.pim [.sc (.bool false),.ints .u64 []])),(7,ivl .i64 0)]);(repeat' (first | refine fJ ?_ ?_ | exact True.intro);all_goals (try (first | exact kvA | exact kOac | (refine kW (ov_of lks) rfl ?_ ?_)))))
 ·exact absurd g7 (by omega)
end Go.Proofs

/-
  recur: Term, where it tells a number.
-/
-- kv2
namespace Go.Proofs
open Go Go.Abs Go.Nums
attribute [local irreducible] thenA blockA awp aw Stp EndF EndP EndN EndG EndH aOps
set_option linter.unusedSimpArgs false
set_option maxHeartbeats 4000000

def lims (k : Nat) (l : List Int) : Prop:=∀ n ∈ l,(digs B n.natAbs).length ≤ k
theorem lims_get {k : Nat} {l : List Int} (h : lims k l) (i : Nat) : (digs B (l.getD i 0).natAbs).length ≤ k:=by
 rw [List.getD_eq_getElem?_getD]
 cases e : l[i]? with
 | none=>simp [digs_zero]
 | some n=>exact h n (List.mem_of_getElem? e)
theorem dotS_len {b l : List Int} (hb : lims 4096 b) (hl : lims 4096 l) : ∀ i,(digs B (dotS b l i).natAbs).length ≤ 8192 + i
 | 0=>by simp [dotS,digs_zero]
 | i + 1=>by
  have ih:=dotS_len hb hl i
  have h1:=lims_get hb i
  have h2:=lims_get hl (l.length - 1 - i)
  have h3:=digs_mul_le (b.getD i 0).natAbs (l.getD (l.length - 1 - i) 0).natAbs
  have h4:=digs_add_le (dotS b l i).natAbs ((b.getD i 0).natAbs * (l.getD (l.length - 1 - i) 0).natAbs)
  have h5 : (digs B (dotS b l (i + 1)).natAbs).length ≤ (digs B ((dotS b l i).natAbs + (b.getD i 0).natAbs * (l.getD (l.length - 1 - i) 0).natAbs)).length:=by
   refine len_mono hB ?_
   rw [dotS,← Int.natAbs_mul]
   exact Int.natAbs_add_le _ _
  omega
theorem blen_limbs {n k : Nat} (h : blen n ≤ 64 * k) : (digs B n).length ≤ k:=by
 rw [digs_len hB,show B = 2 ^ 64 from rfl,← Nat.pow_mul]
 exact (blen_le _ _).1 h

theorem psq_get {ns : List Int} {j : Nat} (h : j < ns.length) : ((ns.map bL).map fun ls=>[Leaf.pim ls]).getD j [] = [.pim (bL (ns.getD j 0))]:=by
 rw [List.getD_eq_getElem?_getD,List.getD_eq_getElem?_getD,List.getElem?_map,List.getElem?_map,List.getElem?_eq_getElem h];rfl

theorem oac_nm0 (l : List Int) : (oac l).nm0:=by
 intro x hx m hm
 obtain ⟨c,hc,h1⟩:=List.mem_flatten.1 hx
 obtain ⟨y,-,rfl⟩:=List.mem_map.1 hc
 simp only [List.mem_singleton] at h1
 subst h1
 exact hm
theorem kOac {A B : Store} {l : List Int} : FrzO A B (oac l) (oac l):=.keep fun x hx q hq=>absurd hq (oac_nm0 l x hx q)

theorem oac_any2 (d : Nat) (l : List Int) : ((l.map bL).map (fun ls=>[Cell.pim ls])).any (fun c=>c.any (Cell.hasL d)) = false:=by
 rw [List.any_eq_false]
 intro x hx
 obtain ⟨y,-,rfl⟩:=List.mem_map.1 hx
 simp [Cell.hasL]
theorem oac_app (l : List Int) (x : Int) : AObj.acc tP 1 ((l.map bL).map (fun ls=>[Cell.pim ls]) ++ [[.pim (bL x)]]) = oac (l ++ [x]):=by simp [oac]
theorem kBo0 {A B : Store} : FrzO A B (.cells tBig [.sc (.bool false),.sc (.slice none 0 0)]) (bo 0):=by
 have e : bo 0 = .cells tBig [.sc (.bool false),.ints .u64 []]:=by
  show AObj.cells tBig _ = _
  simp [bL,U,digs_zero,Leaf.cell]
 rw [e]
 refine .cells rfl fun i y hy=>?_
 match i,hy with
 | 0,hy=>exact ⟨_,rfl,by simp only [List.getElem?_cons_zero,Option.some.injEq] at hy;subst hy;exact .base (.keep fun _ h=>h.elim)⟩
 | 1,hy=>exact ⟨_,rfl,by simp only [List.getElem?_cons_succ,List.getElem?_cons_zero,Option.some.injEq] at hy;subst hy;exact .base .nilI⟩
section
variable {P : Program} {T : TT} {mu : FuncId→Bool} {ops : Array Oper} {fl : FL} {sl : SL} {S : Store} {K : St→Prop} {d : Nat} {ty : TypeId} {pos : String} {after : Array Edge}
theorem zl_oac (hT : TOk P T) {t : TypeId} {x : Operand} {m : Nm} {off : Nat} {l : List Int} (k : K ⟨lk' ((d,bp (l.getD off 0)) :: fl),ov sl S⟩) (h : off < l.length) (hx : opO fl x = some (.accp m off):=by exact rfl)
  (ha : agT T t = some false:=by exact rfl) (hm : lkS sl m = some (oac l):=by exact lks) : Stp P mu ops ⟨some d,.load t x,ty,pos,after,none⟩ ⟨lk' fl,ov sl S⟩ K:=by
 refine za2 hT (i:=off) (j:=0) (sz:=1) k ⟨[.pim (bL (l.getD off 0))],?_,rfl⟩ (by omega) hx ha hm
 rw [List.getElem?_map,List.getElem?_map,List.getElem?_eq_getElem h,List.getD_eq_getElem?_getD,List.getElem?_eq_getElem h];rfl
end

theorem c_term (ns bs : List Int) (m : Nat) (res : AVal) (hres : nm0 res) (hL : ns.length = bs.length) (h0 : 0 < bs.length) (h64 : bs.length ≤ 64) (hm : m ≤ 4096) (hn : lims 4096 ns) (hb : lims 4096 bs) (hr1 : allR (ns.map zp) = true) (hr2 : allR (bs.map zp) = true)
  (hR : match extN bs (m + 1 - ns.length) ns with | none=>res = .tup [w0,ivl .i64 3] | some l=>res = .tup [wz (l.getD m 0),ivl .i64 0]) :
  AFun Tryz.prog 11 [zsq ns,zsq bs,ivl .i64 m] res:=by
 refine afun (mu:=muF) Tryz.func11 rfl (by decide) rfl (by decide) (Nat.le_of_ble_eq_true rfl) (by simp [nm0,AVal.at,AVal.at1,Cell.at]) hres fun S hS=>?_
 have hU1 : ((ns.map zp).map rowI).length = ns.length:=by simp
 have hU2 : ((bs.map zp).map rowI).length = bs.length:=by simp
 have hz : ∀ (l : List Int),lims 4096 l→∀ p ∈ l.map zp,p.2.length < 2 ^ 60:=fun l hl p hp=>by
  obtain ⟨n,h1,rfl⟩:=List.mem_map.1 hp
  have:=hl n h1
  show (digs B n.natAbs).length < _
  omega
 repeat refine gN ?_
 (refine zw ?_;refine s_call (c_rightall (ns.map zp) (by simp;omega) (hz ns hn)) ?_)
 rw [hr1]
 repeat refine gN ?_
 (refine zw ?_;refine s_call (c_rightall (bs.map zp) (by simp;omega) (hz bs hb)) ?_)
 rw [hr2]
 repeat refine gN ?_
 (refine zw ?_;refine s_cmp (fun g=>?_) (fun g=>?_))
 ·exact absurd g (by omega)
 repeat refine gN ?_
 (refine zw ?_;refine s_cmp (fun g=>?_) (fun g=>?_))
 ·exact absurd g (by omega)
 repeat refine gN ?_
 (refine zw ?_;refine s_cmp (fun g=>?_) (fun g=>?_))
 ·exact absurd g (by omega)
 repeat refine gN ?_
 (refine zw ?_;refine s_cmp (fun g=>?_) (fun g=>?_))
 ·exact absurd g (by omega)
 repeat refine gN ?_
 (refine zw ?_;refine s_cmp (fun g=>?_) (fun g=>?_))
 ·exact absurd g (by omega)
 repeat refine gN ?_
 (refine zw ?_;refine s_madeF (c_numbers ns (by omega) (fun n h=>by have:=hn n h;omega)) ?_)
 repeat refine gN ?_
 (refine zw ?_;refine s_madeF (c_numbers bs (by omega) (fun n h=>by have:=hb n h;omega)) ?_)
 repeat refine gN ?_
 obtain ⟨R,hRe⟩ : ∃ R,R = extN bs (m + 1 - ns.length) ns:=⟨_,rfl⟩
 rw [← hRe] at hR
 refine awp_midB (fun st=>∃ l,R = some l∧m < l.length∧lims 4096 l∧l.length ≤ 4097∧Weak st ⟨lk' [(2,ivl .i64 m),(6,ptr (.loc 6)),(8,.accv (.loc 52) l.length)],ov [(.loc 52,oac l),(.loc 6,.cells 28 [.sc (.bool false),.sc (.slice none 0 0)])] (pushS S)⟩) ?_ ?_
 ·refine awp_rep (ι:=List Int) (fun l=>⟨lk' [(2,ivl .i64 m),(6,ptr (.loc 6)),(7,ivl .i64 0),(8,.accv (.loc 52) l.length),(9,psq bs),(10,iv l.length)],ov [(.loc 52,oac l),(.loc 6,.cells 28 [.sc (.bool false),.sc (.slice none 0 0)])] (pushS S)⟩)
   (fun l=>bs.length ≤ l.length∧extN bs (m + 1 - l.length) l = R∧lims 4096 l∧l.length ≤ 4097) (fun l=>m + 1 - l.length) ns ⟨by omega,hRe.symm,hn,by omega⟩ ?_ ?_
  ·have hf1 : ∀ (i : Nat) (ls : List Leaf),(ns.map bL)[i]? = some ls→lkS ((Nm.loc 54,accP tP (Nm.fam (.loc 54)) bs.length) :: (((Nm.loc 52,accP tP (Nm.fam (.loc 52)) ns.length) :: ([(Nm.loc 6,.cells 28 [.sc (.bool false),.sc (.slice none 0 0)])] ++ famL (Nm.fam (.loc 52)) 0 (ns.map bo))) ++ famL (Nm.fam (.loc 54)) 0 (bs.map bo))) (.fam (.loc 52) i) = some (.cells tBig (ls.map Leaf.cell)):=fun i ls h=>by
    rw [List.getElem?_map,Option.map_eq_some_iff] at h
    obtain ⟨n,h1,rfl⟩:=h
    simp only [lkS,lkS_app,reduceCtorEq,if_false]
    rw [lkS_fam (fam_inj _),List.getElem?_map,h1];rfl
   have hf2 : ∀ (i : Nat) (ls : List Leaf),(bs.map bL)[i]? = some ls→lkS ((Nm.loc 54,accP tP (Nm.fam (.loc 54)) bs.length) :: (((Nm.loc 52,accP tP (Nm.fam (.loc 52)) ns.length) :: ([(Nm.loc 6,.cells 28 [.sc (.bool false),.sc (.slice none 0 0)])] ++ famL (Nm.fam (.loc 52)) 0 (ns.map bo))) ++ famL (Nm.fam (.loc 54)) 0 (bs.map bo))) (.fam (.loc 54) i) = some (.cells tBig (ls.map Leaf.cell)):=fun i ls h=>by
    rw [List.getElem?_map,Option.map_eq_some_iff] at h
    obtain ⟨n,h1,rfl⟩:=h
    simp only [lkS,lkS_app,reduceCtorEq,if_false]
    rw [lkS_famN (fun j e=>by simp at e),lkS_fam (fam_inj _),List.getElem?_map,h1];rfl
   (refine frzO hS (fun m=>by simp only [lkS,lkS_app,lkS_famO,reduceCtorEq,if_false,List.cons_append,List.nil_append]) ?_ ?_;all_goals (repeat' (first | refine fJ ?_ ?_ | exact True.intro));all_goals (try (first | exact kvA | exact kOac | (refine kW (ov_of lks) rfl ?_ ?_))))
   ·exact frzAccP' (by simp) fun i ls h=>⟨ov_of (hf1 i ls h),rfl⟩
   ·exact kAccK (ov_of lks) (ov_of lks) (by simp [ptrsG_len]) (by simp [ptrsG_len])
   ·exact kAccP (ov_of lks) rfl (by simp) fun i ls h=>⟨ov_of (hf2 i ls h),rfl⟩
  rintro l ⟨h1,h2,h3,h4⟩
  repeat refine gN ?_
  (refine zw ?_;refine s_cmp (fun g=>?_) (fun g=>?_))
  ·have hlm : l.length ≤ m:=by omega
   repeat refine gN ?_
   refine awp_midB (fun st=>Weak st ⟨lk' [(2,ivl .i64 m),(6,ptr (.loc 6)),(7,ivl .i64 0),(8,.accv (.loc 52) l.length),(9,psq bs),(10,iv l.length),(11,ptr (.loc 62))],ov [(.loc 62,bo (dotR bs l)),(.loc 52,oac l),(.loc 6,.cells 28 [.sc (.bool false),.sc (.slice none 0 0)])] (pushS S)⟩) ?_ ?_
   ·refine awp_rep (fun i : Nat=>⟨lk' [(2,ivl .i64 m),(6,ptr (.loc 6)),(7,ivl .i64 0),(8,.accv (.loc 52) l.length),(9,psq bs),(10,iv l.length),(11,ptr (.loc 62)),(63,psq bs),(64,iv bs.length),(65,iv i)],ov [(.loc 62,bo (dotS bs l i)),(.loc 52,oac l),(.loc 6,.cells 28 [.sc (.bool false),.sc (.slice none 0 0)])] (pushS S)⟩)
     (fun i=>i ≤ bs.length) (fun i=>bs.length + 1 - i) 0 (Nat.zero_le _) ?_ ?_
    ·(refine fz hS ?_ ?_;all_goals (repeat' (first | refine fJ ?_ ?_ | exact True.intro));all_goals (try (first | exact kvA | exact kOac | (refine kW (ov_of lks) rfl ?_ ?_))))
     ·exact kBo0
     ·exact kN (by simp)
    intro i hi
    repeat refine gN ?_
    (refine zw ?_;refine s_cmp (fun g2=>?_) (fun g2=>?_))
    ·have hib : i < bs.length:=by omega
     repeat refine gN ?_
     rw [show (i : Int).toNat = i by omega,psq_get hib]
     repeat refine gN ?_
     rw [show ((l.length : Int) - 1 - i).toNat = l.length - 1 - i by omega]
     ((refine zw ?_;refine zl_oac ttOk ?_ ?_);rotate_left)
     ·omega
     have hb1:=lims_get hb i
     have hl1:=lims_get h3 (l.length - 1 - i)
     have hd1:=dotS_len hb h3 i
     have hmul:=digs_mul_le (bs.getD i 0).natAbs (l.getD (l.length - 1 - i) 0).natAbs
     rw [← Int.natAbs_mul] at hmul
     (refine zw ?_;refine s_proc (c_mul (.loc 72) (.sc (.bool false)) (.sc (.slice none 0 0)) _ _ _ _ (.im (bs.getD i 0)) (.im (l.getD (l.length - 1 - i) 0)) (by omega) (by omega)) ?_ preX)
     ((first | refine aw_fz 72 ?_ ?_ (hn:=by simp only [noL,addL,delL,oac_any2];try rfl) | refine awp_fz 72 ?_ ?_ (hn:=by simp only [noL,addL,delL,oac_any2];try rfl));rotate_left;· (repeat' (first | exact True.intro | refine And.intro ?_ ?_)) <;> first | (show _ ≤ _;simp;done) | (show _ ≤ _;simp;omega) | (show _ ≤ _;omega))
     (refine zw ?_;refine s_proc (c_add (.loc 62) _ _ _ _ (dotS bs l i) _ (.self _ rfl rfl) (.im (bs.getD i 0 * l.getD (l.length - 1 - i) 0)) (by omega) (by omega)) ?_ preX)
     repeat refine gN ?_
     refine ⟨i + 1,?_,by omega,by omega⟩
     (refine fz hS ?_ ?_;all_goals (repeat' (first | refine fJ ?_ ?_ | exact True.intro));all_goals (try (first | exact kvA | exact kOac | (refine kW (ov_of lks) rfl ?_ ?_))))
    ·repeat refine gN ?_
     have : i = bs.length:=by omega
     subst this
     (refine fz hS ?_ ?_;all_goals (repeat' (first | refine fJ ?_ ?_ | exact True.intro));all_goals (try (first | exact kvA | exact kOac | (refine kW (ov_of lks) rfl ?_ ?_))))
   intro st hst
   refine awp_weak _ hst ?_
   clear hst st
   have hd : (digs B (dotR bs l).natAbs).length ≤ 8192 + bs.length:=dotS_len hb h3 bs.length
   obtain ⟨k,hk⟩ : ∃ k,m + 1 - l.length = k + 1:=⟨m - l.length,by omega⟩
   rw [hk,extN] at h2
   repeat refine gN ?_
   (refine zw ?_;refine s_lendF (c_bitlen (dotR bs l) (by omega)) [.loc 62] (lvs1 (lvP List.mem_cons_self lks)) (lentX1 ⟨_,List.mem_cons_self,rfl⟩ lks) ?_)
   repeat refine gN ?_
   (refine zw ?_;refine s_cmp (fun g3=>?_) (fun g3=>?_))
   ·rw [if_pos (by omega)] at h2
    rw [← h2] at hR
    simp only at hR
    subst hR
    repeat refine gN ?_
    (refine eF hS ?_ (fl':=[(6,.c (.pim [.sc (.bool false),.ints .u64 []])),(7,ivl .i64 3)]);(repeat' (first | refine fJ ?_ ?_ | exact True.intro);all_goals (try (first | exact kvA | exact kOac | (refine kW (ov_of lks) rfl ?_ ?_)))))
   ·rw [if_neg (by omega)] at h2
    repeat refine gN ?_
    ((first | refine aw_fz 62 ?_ ?_ (hn:=by simp only [noL,addL,delL,oac_any2];try rfl) | refine awp_fz 62 ?_ ?_ (hn:=by simp only [noL,addL,delL,oac_any2];try rfl));rotate_left;· (repeat' (first | exact True.intro | refine And.intro ?_ ?_)) <;> first | (show _ ≤ _;simp;done) | (show _ ≤ _;simp;omega) | (show _ ≤ _;omega))
    (refine zw ?_;refine s_bld (out:=[.pim (bL (dotR bs l))]) ttOk ?_)
    (refine zw ?_;refine s_appP ([[.pim (bL (dotR bs l))]]) ttOk (srcR_one lks rfl) ?_ ?_)
    ·simp;omega
    repeat refine gN ?_
    refine ⟨l ++ [dotR bs l],?_,⟨by simp;omega,?_,?_,by simp;omega⟩,by simp;omega⟩
    ·(refine fz hS ?_ ?_;all_goals (repeat' (first | refine fJ ?_ ?_ | exact True.intro));all_goals (try (first | exact kvA | exact kOac | (refine kW (ov_of lks) rfl ?_ ?_))))
     ·rw [show AObj.acc _ 1 (List.map (fun ls=>[Cell.pim ls]) (List.map bL l) ++ [[Cell.pim (bL (dotR bs l))]]) = oac (l ++ [dotR bs l]) from oac_app l _]
      exact kOac
     ·exact kN (by simp)
    ·rw [show m + 1 - (l ++ [dotR bs l]).length = k by simp;omega];exact h2
    ·intro n hn
     rcases List.mem_append.1 hn with h | h
     ·exact h3 n h
     ·simp only [List.mem_singleton] at h
      subst h
      exact blen_limbs (by omega)
  ·repeat refine gN ?_
   rw [show m + 1 - l.length = 0 by omega] at h2
   refine ⟨l,h2.symm,by omega,h3,h4,?_⟩
   (refine fz hS ?_ ?_;all_goals (repeat' (first | refine fJ ?_ ?_ | exact True.intro));all_goals (try (first | exact kvA | exact kOac | (refine kW (ov_of lks) rfl ?_ ?_))))
 rintro st ⟨l,e,h1,h2,h3,hst⟩
 refine awp_weak _ hst ?_
 clear hst st
 rw [e] at hR
 simp only at hR
 subst hR
 have hx:=lims_get h2 m
 repeat refine gN ?_
 rw [show ((m : Nat) : Int).toNat = m by omega]
 ((refine zw ?_;refine zl_oac ttOk ?_ ?_);rotate_left)
 ·exact h1
 (refine zw ?_;refine s_call (c_extold0 (l.getD m 0) hx) ?_)
 repeat refine gN ?_
 (refine eF hS ?_ (fl':=[(6,.c (.pim [.sc (.bool (decide (l.getD m 0 < 0))),.ints .u64 (U (digs B (l.getD m 0).natAbs))])),(7,ivl .i64 0)]);(repeat' (first | refine fJ ?_ ?_ | exact True.intro);all_goals (try (first | exact kvA | exact kOac | (refine kW (ov_of lks) rfl ?_ ?_)))))
end Go.Proofs

/-
  Rows by a rule, in plain numbers: what is taken away modulo the rule's polynomial, and products, tell later numbers of the row.
-/
namespace Go.Proofs
open Go Go.Abs Go.Nums

def exl (b : List Int) : Nat→List Int→List Int
 | 0,l=>l
 | k + 1,l=>exl b k (l ++ [dotR b l])
theorem exl_len (b : List Int) : ∀ (k : Nat) (l : List Int),(exl b k l).length = l.length + k
 | 0,l=>rfl
 | k + 1,l=>by rw [exl,exl_len b k];simp;omega
theorem exl_add (b : List Int) : ∀ (j k : Nat) (l : List Int),exl b (j + k) l = exl b k (exl b j l)
 | 0,k,l=>by rw [Nat.zero_add];rfl
 | j + 1,k,l=>by rw [show j + 1 + k = (j + k) + 1 by omega,exl,exl_add b j k];rfl
theorem getD_app {l r : List Int} {n : Nat} (h : n < l.length) : (l ++ r).getD n 0 = l.getD n 0:=by
 rw [List.getD_eq_getElem?_getD,List.getD_eq_getElem?_getD,List.getElem?_append_left h]
theorem exl_get (b : List Int) : ∀ (k : Nat) (l : List Int) {n : Nat},n < l.length→(exl b k l).getD n 0 = l.getD n 0
 | 0,_,_,_=>rfl
 | k + 1,l,n,h=>by rw [exl,exl_get b k _ (by simp;omega),getD_app h]
def rowA (b f : List Int) (n : Nat) : Int:=(exl b (n + 1) f).getD n 0
theorem rowA_get (b f : List Int) {k n : Nat} (h : n < f.length + k) : (exl b k f).getD n 0 = rowA b f n:=by
 rcases Nat.le_total k (n + 1) with h1 | h1
 ·obtain ⟨d,hd⟩:=Nat.exists_eq_add_of_le h1
  rw [rowA,hd,exl_add,exl_get b d _ (by rw [exl_len];omega)]
 ·obtain ⟨d,hd⟩:=Nat.exists_eq_add_of_le h1
  rw [rowA,hd,exl_add,exl_get b d _ (by rw [exl_len];omega)]
def sumN (c : Nat→Int) : Nat→Int
 | 0=>0
 | n + 1=>sumN c n + c n
theorem sumN_congr {c d : Nat→Int} {n : Nat} (h : ∀ i,i < n→c i = d i) : sumN c n = sumN d n:=by
 induction n with
 | zero=>rfl
 | succ n ih=>rw [sumN,sumN,ih fun i hi=>h i (by omega),h n (by omega)]
theorem sumN_add (c d : Nat→Int) (n : Nat) : sumN (fun i=>c i + d i) n = sumN c n + sumN d n:=by
 induction n with
 | zero=>rfl
 | succ n ih=>rw [sumN,sumN,sumN,ih];omega
theorem sumN_mul (x : Int) (c : Nat→Int) (n : Nat) : sumN (fun i=>x * c i) n = x * sumN c n:=by
 induction n with
 | zero=>simp [sumN]
 | succ n ih=>rw [sumN,sumN,ih,Int.mul_add]
theorem sumN_zero {c : Nat→Int} {n : Nat} (h : ∀ i,i < n→c i = 0) : sumN c n = 0:=by
 rw [sumN_congr (d:=fun _=>0) h]
 induction n with
 | zero=>rfl
 | succ n ih=>rw [sumN,ih fun i hi=>h i (by omega)];rfl
theorem sumN_swap (c : Nat→Nat→Int) (n m : Nat) : sumN (fun i=>sumN (c i) m) n = sumN (fun j=>sumN (fun i=>c i j) n) m:=by
 induction n with
 | zero =>
  exact (sumN_zero fun _ _=>rfl).symm
 | succ n ih=>rw [sumN,ih,← sumN_add];exact sumN_congr fun j _=>rfl
abbrev eqm (m x y : Int) : Prop:=x % m = y % m
theorem eqm_add {m a b c d : Int} (h : eqm m a b) (k : eqm m c d) : eqm m (a + c) (b + d):=by
 show (a + c) % m = (b + d) % m
 rw [Int.add_emod,h,k,← Int.add_emod]
theorem eqm_mul {m a b c d : Int} (h : eqm m a b) (k : eqm m c d) : eqm m (a * c) (b * d):=by
 show (a * c) % m = (b * d) % m
 rw [Int.mul_emod,h,k,← Int.mul_emod]
theorem eqm_mod (m a : Int) : eqm m (a % m) a:=Int.emod_emod ..
theorem eqm_sum {m : Int} {c d : Nat→Int} {n : Nat} (h : ∀ i,i < n→eqm m (c i) (d i)) : eqm m (sumN c n) (sumN d n):=by
 induction n with
 | zero=>rfl
 | succ n ih=>exact eqm_add (ih fun i hi=>h i (by omega)) (h n (by omega))

def byRule (b : List Int) (a : Nat→Int) : Prop:=∀ n,b.length ≤ n→a n = sumN (fun i=>b.getD i 0 * a (n - 1 - i)) b.length
theorem dotS_sum (b l : List Int) : ∀ i,dotS b l i = sumN (fun j=>b.getD j 0 * l.getD (l.length - 1 - j) 0) i
 | 0=>rfl
 | i + 1=>by rw [dotS,dotS_sum b l i];rfl
theorem rowA_rule {b f : List Int} (h : f.length = b.length) : byRule b (rowA b f):=by
 intro n hn
 obtain ⟨k,hk⟩ : ∃ k,n = f.length + k:=⟨n - f.length,by omega⟩
 have hl : (exl b k f).length = n:=by rw [exl_len];omega
 rw [← rowA_get b f (k:=k + 1) (by omega),exl_add b k 1 f]
 show ((exl b k f) ++ [dotR b (exl b k f)]).getD n 0 = _
 rw [List.getD_eq_getElem?_getD,List.getElem?_append_right (by omega),hl,Nat.sub_self]
 simp only [List.getElem?_cons_zero,Option.getD_some]
 show dotS b (exl b k f) b.length = _
 rw [dotS_sum]
 refine sumN_congr fun i hi=>?_
 rw [hl]
 by_cases h0 : n = 0
 ·omega
 ·rw [rowA_get b f (by omega)]

abbrev tells (a : Nat→Int) (p : List Int) (n k : Nat) : Int:=sumN (fun i=>p.getD i 0 * a (i + k)) n
theorem getD_set {l : List Int} {i j : Nat} {x : Int} (h : i < l.length) : (l.set i x).getD j 0 = if j = i then x else l.getD j 0:=by
 rw [List.getD_eq_getElem?_getD,List.getD_eq_getElem?_getD]
 by_cases e : j = i
 ·subst e;rw [if_pos rfl,List.getElem?_set_self h];rfl
 ·rw [if_neg e,List.getElem?_set_ne (fun q=>e q.symm)]
def conv (p q : List Int) (n : Nat) : Int:=sumN (fun i=>if i ≤ n∧n - i < q.length then p.getD i 0 * q.getD (n - i) 0 else 0) p.length

end Go.Proofs

/-
  The shortest rule of a list, by Berlekamp's and Massey's way, in plain numbers: it makes the list, and none is shorter.
-/
namespace Go.Proofs
open Go Go.Abs Go.Nums

theorem sumN_trunc {c : Nat→Int} {n : Nat} (h : ∀ i,n ≤ i→c i = 0) : ∀ k,sumN c (n + k) = sumN c n
 | 0=>rfl
 | k + 1=>by rw [← Nat.add_assoc,sumN,sumN_trunc h k,h (n + k) (by omega)];omega
theorem sumN_trunc' {c : Nat→Int} {n k : Nat} (h : ∀ i,n ≤ i→c i = 0) (hk : n ≤ k) : sumN c k = sumN c n:=by
 obtain ⟨d,rfl⟩:=Nat.exists_eq_add_of_le hk
 exact sumN_trunc h d
theorem sumN_at0 (x : Int) : ∀ n,sumN (fun j=>if j = 0 then x else 0) (n + 1) = x
 | 0=>by simp [sumN]
 | n + 1=>by rw [sumN,sumN_at0 x n,if_neg (by omega)];omega
theorem sumN_sub (c d : Nat→Int) (n : Nat) : sumN (fun i=>c i - d i) n = sumN c n - sumN d n:=by
 induction n with
 | zero=>rfl
 | succ n ih=>rw [sumN,sumN,sumN,ih];omega
theorem sumN_late (f : Nat→Int) (s : Nat) : ∀ k,sumN (fun i=>if s ≤ i then f (i - s) else 0) (s + k) = sumN f k
 | 0=>sumN_zero fun i hi=>if_neg (by omega)
 | k + 1=>by rw [← Nat.add_assoc,sumN,sumN,sumN_late f s k,if_pos (by omega),show s + k - s = k by omega]
theorem getD_out {c : List Int} {i : Nat} (h : c.length ≤ i) : c.getD i 0 = 0:=by
 rw [List.getD_eq_getElem?_getD,List.getElem?_eq_none h];rfl
theorem eqm_sub {m a b c d : Int} (h : eqm m a b) (k : eqm m c d) : eqm m (a - c) (b - d):=by
 show (a - c) % m = (b - d) % m
 rw [Int.sub_emod,h,k,← Int.sub_emod]

def atC (c : List Int) (a : Nat→Int) (m : Nat) : Int:=sumN (fun i=>c.getD i 0 * a (m - i)) (m + 1)
theorem atC_len {c : List Int} {a : Nat→Int} {m L : Nat} (h : c.length ≤ L + 1) (hm : L ≤ m) : atC c a m = sumN (fun i=>c.getD i 0 * a (m - i)) (L + 1) :=
 sumN_trunc' (fun i hi=>by rw [getD_out (by omega),Int.zero_mul]) (by omega)
def gens (p : Int) (c : List Int) (L : Nat) (a : Nat→Int) (n : Nat) : Prop:=c.getD 0 0 = 1∧c.length ≤ L + 1∧∀ m,L ≤ m→m < n→atC c a m % p = 0
theorem gens_less {p : Int} {c : List Int} {L n k : Nat} {a : Nat→Int} (h : gens p c L a n) (hk : k ≤ n) : gens p c L a k:=⟨h.1,h.2.1,fun m h1 h2=>h.2.2 m h1 (by omega)⟩

theorem massey {p : Int} {c d : List Int} {L K n : Nat} {a : Nat→Int} (hc : gens p c L a n) (h : atC c a n % p ≠ 0) (hd : gens p d K a (n + 1)) : n + 1 ≤ L + K:=by
 refine Decidable.byContradiction fun hlt=>h ?_
 have z : (0 : Int) % p = 0:=Int.zero_emod p
 have e1 : eqm p (sumN (fun i=>sumN (fun j=>c.getD i 0 * (d.getD j 0 * a (n - i - j))) (K + 1)) (L + 1)) 0:=by
  have : eqm p (sumN (fun i=>sumN (fun j=>c.getD i 0 * (d.getD j 0 * a (n - i - j))) (K + 1)) (L + 1)) (sumN (fun _=>0) (L + 1)):=eqm_sum fun i hi=>by
   rw [sumN_mul,← atC_len hd.2.1 (by omega)]
   have h1 : eqm p (atC d a (n - i)) 0:=by show _ % p = _ % p;rw [hd.2.2 (n - i) (by omega) (by omega),z]
   have:=eqm_mul (rfl : eqm p (c.getD i 0) (c.getD i 0)) h1
   rw [Int.mul_zero] at this
   exact this
  rw [sumN_zero (c:=fun _=>0) fun _ _=>rfl] at this
  exact this
 have e2 : eqm p (sumN (fun j=>sumN (fun i=>c.getD i 0 * (d.getD j 0 * a (n - i - j))) (L + 1)) (K + 1)) (atC c a n):=by
  rw [← sumN_at0 (atC c a n) K]
  refine eqm_sum fun j hj=>?_
  have e3 : sumN (fun i=>c.getD i 0 * (d.getD j 0 * a (n - i - j))) (L + 1) = d.getD j 0 * atC c a (n - j):=by
   rw [atC_len hc.2.1 (by omega),← sumN_mul]
   refine sumN_congr fun i hi=>?_
   rw [show n - i - j = n - j - i by omega,Int.mul_left_comm]
  rw [e3]
  by_cases h0 : j = 0
  ·subst h0
   rw [if_pos rfl,hd.1,Int.one_mul];rfl
  ·rw [if_neg h0]
   have h1 : eqm p (atC c a (n - j)) 0:=by show _ % p = _ % p;rw [hc.2.2 (n - j) (by omega) (by omega),z]
   have:=eqm_mul (rfl : eqm p (d.getD j 0) (d.getD j 0)) h1
   rw [Int.mul_zero] at this
   exact this
 rw [sumN_swap] at e1
 have:=e2.symm.trans e1
 rw [show atC c a n % p = _ from this,z]

/-! ### The way -/
def offS (c row : List Int) (p : Int) (n : Nat) : Nat→Int
 | 0=>0
 | i + 1=>if i ≤ n then (offS c row p n i + c.getD i 0 * row.getD (n - i) 0) % p else offS c row p n i
theorem offS_rng {c row : List Int} {p : Int} (hp : 0 < p) {n : Nat} : ∀ i,0 ≤ offS c row p n i∧offS c row p n i < p
 | 0=>⟨Int.le_refl _,hp⟩
 | i + 1=>by
  rw [offS]
  split
  ·exact ⟨Int.emod_nonneg _ (by omega),Int.emod_lt_of_pos _ hp⟩
  ·exact offS_rng hp i
theorem offS_sum {c row : List Int} {p : Int} {n : Nat} : ∀ i,i ≤ n + 1→eqm p (offS c row p n i) (sumN (fun i=>c.getD i 0 * row.getD (n - i) 0) i)
 | 0,_=>rfl
 | i + 1,h=>by
  rw [offS,if_pos (by omega),sumN]
  exact (eqm_mod p _).trans (eqm_add (offS_sum i (by omega)) rfl)
theorem offS_ge {c row : List Int} {p : Int} {n : Nat} : ∀ k,offS c row p n (n + 1 + k) = offS c row p n (n + 1)
 | 0=>rfl
 | k + 1=>by rw [← Nat.add_assoc,offS,if_neg (by omega),offS_ge k]
theorem offS_eq {c row : List Int} {p : Int} (hp : 0 < p) {n : Nat} : offS c row p n c.length = atC c (fun i=>row.getD i 0) n % p:=by
 have hr:=offS_rng (c:=c) (row:=row) hp (n:=n) c.length
 rw [← Int.emod_eq_of_lt hr.1 hr.2]
 rcases Nat.le_total c.length (n + 1) with h | h
 ·refine (offS_sum c.length h).trans ?_
  rw [atC,sumN_trunc' (n:=c.length) (k:=n + 1) (fun i hi=>by rw [getD_out hi,Int.zero_mul]) h]
 ·obtain ⟨k,hk⟩:=Nat.exists_eq_add_of_le h
  rw [hk,offS_ge]
  exact offS_sum (n + 1) (Nat.le_refl _)

def inR (p : Int) (l : List Int) : Prop:=∀ x ∈ l,0 ≤ x∧x < p
theorem inR_get {p : Int} (hp : 0 < p) {l : List Int} (h : inR p l) (i : Nat) : 0 ≤ l.getD i 0∧l.getD i 0 < p:=by
 rw [List.getD_eq_getElem?_getD]
 cases e : l[i]? with
 | none=>exact ⟨Int.le_refl _,hp⟩
 | some x=>exact h x (List.mem_of_getElem? e)
theorem inR_set {p : Int} {l : List Int} (h : inR p l) (i : Nat) {x : Int} (hx : 0 ≤ x∧x < p) : inR p (l.set i x):=fun y hy=>by
 rcases List.mem_or_eq_of_mem_set hy with q | rfl
 ·exact h y q
 ·exact hx
def padTo (l : List Int) (k : Nat) : List Int:=l ++ List.replicate (k - l.length) 0
theorem padTo_len (l : List Int) (k : Nat) : (padTo l k).length = max l.length k:=by simp [padTo];omega
theorem padTo_get (l : List Int) (k i : Nat) : (padTo l k).getD i 0 = l.getD i 0:=by
 rw [padTo,List.getD_eq_getElem?_getD,List.getD_eq_getElem?_getD,List.getElem?_append]
 split
 ·rfl
 ·rename_i h
  rw [List.getElem?_eq_none (Nat.le_of_not_lt h),List.getElem?_replicate]
  split <;> rfl
theorem padTo_rng {p : Int} (hp : 0 < p) {l : List Int} (h : inR p l) (k : Nat) : inR p (padTo l k):=fun x hx=>by
 rcases List.mem_append.1 hx with q | q
 ·exact h x q
 ·rw [(List.mem_replicate.1 q).2];exact ⟨Int.le_refl _,hp⟩
def subS (t : List Int) (y p : Int) (s : Nat) : Nat→List Int→List Int
 | 0,c=>c
 | i + 1,c=>(subS t y p s i c).set (i + s) (((subS t y p s i c).getD (i + s) 0 - y * t.getD i 0 % p) % p)
theorem subS_len (t : List Int) (y p : Int) (s : Nat) (c : List Int) : ∀ k,(subS t y p s k c).length = c.length
 | 0=>rfl
 | k + 1=>by rw [subS,List.length_set,subS_len t y p s c k]
theorem subS_rng {t : List Int} {y p : Int} (hp : 0 < p) {s : Nat} {c : List Int} (h : inR p c) : ∀ k,inR p (subS t y p s k c)
 | 0=>h
 | k + 1=>inR_set (subS_rng hp h k) _ ⟨Int.emod_nonneg _ (by omega),Int.emod_lt_of_pos _ hp⟩
theorem subS_get {t : List Int} {y p : Int} {s : Nat} {c : List Int} : ∀ k,k + s ≤ c.length→∀ j,eqm p ((subS t y p s k c).getD j 0) (c.getD j 0 - (if s ≤ j∧j - s < k then y * t.getD (j - s) 0 else 0))
 | 0,_,j=>by rw [if_neg (by omega),Int.sub_zero];rfl
 | k + 1,h,j=>by
  have ih:=subS_get (t:=t) (y:=y) (p:=p) (s:=s) (c:=c) k (by omega)
  rw [subS,getD_set (by rw [subS_len];omega)]
  by_cases e : j = k + s
  ·subst e
   rw [if_pos rfl,if_pos (by omega),show k + s - s = k by omega]
   refine (eqm_mod p _).trans (eqm_sub ?_ (eqm_mod p _))
   have:=ih (k + s)
   rw [if_neg (by omega),Int.sub_zero] at this
   exact this
  ·rw [if_neg e]
   have:=ih j
   by_cases e2 : s ≤ j∧j - s < k
   ·rw [if_pos e2] at this;rw [if_pos (by omega)];exact this
   ·rw [if_neg e2] at this;rw [if_neg (by omega)];exact this

theorem atC_sub {p y : Int} {c c' t : List Int} {a : Nat→Int} {s m : Nat} (h : ∀ j,eqm p (c'.getD j 0) (c.getD j 0 - (if s ≤ j then y * t.getD (j - s) 0 else 0))) (hm : s ≤ m) : eqm p (atC c' a m) (atC c a m - y * atC t a (m - s)):=by
 have e1 : eqm p (atC c' a m) (sumN (fun i=>c.getD i 0 * a (m - i) - (if s ≤ i then y * (t.getD (i - s) 0 * a (m - s - (i - s))) else 0)) (m + 1)):=eqm_sum fun i hi=>by
  have:=eqm_mul (h i) (rfl : eqm p (a (m - i)) (a (m - i)))
  refine this.trans ?_
  rw [Int.sub_mul]
  by_cases e : s ≤ i
  ·rw [if_pos e,if_pos e,Int.mul_assoc,show m - s - (i - s) = m - i by omega]
  ·rw [if_neg e,if_neg e,Int.zero_mul]
 refine e1.trans ?_
 rw [sumN_sub,show m + 1 = s + (m - s + 1) by omega,sumN_late (fun i=>y * (t.getD i 0 * a (m - s - i))) s,sumN_mul,← show m + 1 = s + (m - s + 1) by omega]
 rfl

structure BM where
 now : List Int
 tn : List Int
 size : Nat
 since : Nat
 was : Int
def bmStep (inv : Int→Int) (row : List Int) (p : Int) (n : Nat) (s : BM) : BM :=
 if offS s.now row p n s.now.length = 0 then ⟨s.now,s.tn,s.size,s.since + 1,s.was⟩
 else if n < 2 * s.size then ⟨subS s.tn (offS s.now row p n s.now.length * inv s.was % p) p s.since s.tn.length (padTo s.now (s.tn.length + s.since)),s.tn,s.size,s.since + 1,s.was⟩
 else ⟨subS s.tn (offS s.now row p n s.now.length * inv s.was % p) p s.since s.tn.length (padTo s.now (s.tn.length + s.since)),s.now,n + 1 - s.size,1,offS s.now row p n s.now.length⟩
def bmRun (inv : Int→Int) (row : List Int) (p : Int) : Nat→BM
 | 0=>⟨[1],[1],0,1,1⟩
 | n + 1=>bmStep inv row p n (bmRun inv row p n)

structure BMI (p : Int) (a : Nat→Int) (n : Nat) (s : BM) : Prop where
 g : gens p s.now s.size a n
 r : inR p s.now
 tr : inR p s.tn
 s1 : 1 ≤ s.since
 w : 0 < s.was∧s.was < p
 old : (s.size = 0∧s.since = n + 1∧s.tn.length = 1) ∨ ∃ sb nb,nb + s.since = n∧s.size + sb = nb + 1∧s.tn.length ≤ sb + 1∧(∀ m,sb ≤ m→m < nb→atC s.tn a m % p = 0)∧atC s.tn a nb % p = s.was
 low : ∀ L d,gens p d L a n→s.size ≤ L

theorem bmi0 {p : Int} (hp : 1 < p) (a : Nat→Int) : BMI p a 0 ⟨[1],[1],0,1,1⟩ :=
 ⟨⟨rfl,by decide,fun m _ h=>by omega⟩,fun x hx=>by simp only [List.mem_singleton] at hx;omega,fun x hx=>by simp only [List.mem_singleton] at hx;omega,Nat.le_refl _,⟨by decide,hp⟩,.inl ⟨rfl,rfl,rfl⟩,fun _ _ _=>Nat.zero_le _⟩

theorem bmi_step {p : Int} (hp : 1 < p) {inv : Int→Int} (hinv : ∀ x,0 < x→x < p→x * inv x % p = 1) {row : List Int} {n : Nat} {s : BM} (h : BMI p (fun i=>row.getD i 0) n s) : BMI p (fun i=>row.getD i 0) (n + 1) (bmStep inv row p n s):=by
 obtain ⟨a,ha⟩ : ∃ a : Nat→Int,a = fun i=>row.getD i 0:=⟨_,rfl⟩
 obtain ⟨off,ho⟩ : ∃ off,off = offS s.now row p n s.now.length:=⟨_,rfl⟩
 have hoff : off = atC s.now a n % p:=by rw [ho,ha];exact offS_eq (by omega)
 have hor : 0 ≤ off∧off < p:=by rw [hoff];exact ⟨Int.emod_nonneg _ (by omega),Int.emod_lt_of_pos _ (by omega)⟩
 rw [← ha] at h ⊢
 have hsn : s.size ≤ n:=by
  rcases h.old with ⟨q,-⟩ | ⟨sb,nb,q1,q2,-⟩
  ·omega
  ·have:=h.s1;omega
 unfold bmStep
 rw [← ho]
 by_cases h0 : off = 0
 ·rw [if_pos h0]
  refine ⟨⟨h.g.1,h.g.2.1,fun m h1 h2=>?_⟩,h.r,h.tr,by show 1 ≤ s.since + 1;omega,h.w,?_,fun L d hd=>h.low L d (gens_less hd (by omega))⟩
  ·by_cases e : m = n
   ·rw [e,← hoff,h0]
   ·exact h.g.2.2 m h1 (by omega)
  ·rcases h.old with ⟨q1,q2,q3⟩ | ⟨sb,nb,q1,q2,q3,q4,q5⟩
   ·exact .inl ⟨q1,by show s.since + 1 = _;omega,q3⟩
   ·exact .inr ⟨sb,nb,by show nb + (s.since + 1) = _;omega,q2,q3,q4,q5⟩
 rw [if_neg h0]
 obtain ⟨y,hy⟩ : ∃ y,y = off * inv s.was % p:=⟨_,rfl⟩
 have hyw : eqm p (y * s.was) off:=by
  rw [hy]
  refine (eqm_mul (eqm_mod p _) (rfl : eqm p s.was s.was)).trans ?_
  rw [Int.mul_assoc,Int.mul_comm (inv s.was)]
  have h1 : eqm p (s.was * inv s.was) 1:=by show _ % p = 1 % p;rw [hinv s.was h.w.1 h.w.2,Int.emod_eq_of_lt (by omega) hp]
  have:=eqm_mul (rfl : eqm p off off) h1
  rw [Int.mul_one] at this
  exact this
 rw [← hy]
 obtain ⟨c,hc⟩ : ∃ c,c = subS s.tn y p s.since s.tn.length (padTo s.now (s.tn.length + s.since)):=⟨_,rfl⟩
 rw [← hc]
 have hcl : c.length = max s.now.length (s.tn.length + s.since):=by rw [hc,subS_len,padTo_len]
 have hcr : inR p c:=by rw [hc];exact subS_rng (by omega) (padTo_rng (by omega) h.r _) _
 have hcg : ∀ j,eqm p (c.getD j 0) (s.now.getD j 0 - (if s.since ≤ j then y * s.tn.getD (j - s.since) 0 else 0)):=fun j=>by
  have:=subS_get (t:=s.tn) (y:=y) (p:=p) (s:=s.since) (c:=padTo s.now (s.tn.length + s.since)) s.tn.length (by rw [padTo_len];omega) j
  rw [← hc,padTo_get] at this
  refine this.trans ?_
  by_cases e : s.since ≤ j
  ·rw [if_pos e]
   by_cases e2 : j - s.since < s.tn.length
   ·rw [if_pos ⟨e,e2⟩]
   ·rw [if_neg (by omega),getD_out (show s.tn.length ≤ j - s.since by omega),Int.mul_zero]
  ·rw [if_neg e,if_neg (by omega)]
 have hs1:=h.s1
 have hc0 : c.getD 0 0 = 1:=by
  have:=hcg 0
  rw [if_neg (by omega),Int.sub_zero,h.g.1] at this
  have hr:=inR_get (show 0 < p by omega) hcr 0
  have e : c.getD 0 0 % p = 1 % p:=this
  rw [Int.emod_eq_of_lt hr.1 hr.2,Int.emod_eq_of_lt (by omega) hp] at e
  exact e
 have hw:=h.w
 have hlast : ∀ nb,nb + s.since = n→atC s.tn a nb % p = s.was→atC c a n % p = 0:=fun nb h1 h2=>by
  have:=atC_sub (a:=a) (m:=n) hcg (by omega)
  rw [show n - s.since = nb by omega] at this
  have h3 : eqm p (y * atC s.tn a nb) off:=(eqm_mul rfl (show eqm p (atC s.tn a nb) s.was by show _ % p = _ % p;rw [h2,Int.emod_eq_of_lt (by omega) h.w.2])).trans hyw
  have h4 : eqm p (atC s.now a n) off:=by show _ % p = _ % p;rw [← hoff,Int.emod_eq_of_lt hor.1 hor.2]
  have:=this.trans (eqm_sub h4 h3)
  rw [Int.sub_self] at this
  exact this.trans (Int.zero_emod p)
 have hmid : ∀ sb nb m,nb + s.since = n→(∀ m,sb ≤ m→m < nb→atC s.tn a m % p = 0)→s.size ≤ m→m < n→sb + s.since ≤ m→atC c a m % p = 0:=fun sb nb m h1 h2 h3 h4 h5=>by
  have:=atC_sub (a:=a) (m:=m) hcg (by omega)
  have h6 : eqm p (atC s.tn a (m - s.since)) 0:=(h2 (m - s.since) (by omega) (by omega)).trans (Int.zero_emod p).symm
  have h7 : eqm p (atC s.now a m) 0:=(h.g.2.2 m h3 h4).trans (Int.zero_emod p).symm
  have:=this.trans (eqm_sub h7 (eqm_mul (rfl : eqm p y y) h6))
  rw [Int.mul_zero,Int.sub_zero] at this
  exact this.trans (Int.zero_emod p)
 have hnl:=h.g.2.1
 by_cases hn : n < 2 * s.size
 ·rw [if_pos hn]
  rcases h.old with ⟨q,-⟩ | ⟨sb,nb,q1,q2,q3,q4,q5⟩
  ·omega
  refine ⟨⟨hc0,by show c.length ≤ s.size + 1;rw [hcl];omega,fun m h1 h2=>?_⟩,hcr,h.tr,by show 1 ≤ s.since + 1;omega,h.w,.inr ⟨sb,nb,by show nb + (s.since + 1) = _;omega,q2,q3,q4,q5⟩,fun L d hd=>h.low L d (gens_less hd (by omega))⟩
  have h1' : s.size ≤ m:=h1
  by_cases e : m = n
  ·rw [e];exact hlast nb q1 q5
  ·exact hmid sb nb m q1 q4 h1' (by omega) (by omega)
 ·rw [if_neg hn]
  have hnz : atC s.now a n % p ≠ 0:=by rw [← hoff];exact h0
  refine ⟨⟨hc0,?_,fun m h1 h2=>?_⟩,hcr,h.r,Nat.le_refl _,⟨by show 0 < off;omega,hor.2⟩,.inr ⟨s.size,n,rfl,by show n + 1 - s.size + s.size = n + 1;omega,hnl,h.g.2.2,hoff.symm⟩,fun L d hd=>?_⟩
  ·show c.length ≤ n + 1 - s.size + 1
   rw [hcl]
   rcases h.old with ⟨q1,q2,q3⟩ | ⟨sb,nb,q1,q2,q3,q4,q5⟩ <;> omega
  ·have h1' : n + 1 - s.size ≤ m:=h1
   rcases h.old with ⟨q1,q2,q3⟩ | ⟨sb,nb,q1,q2,q3,q4,q5⟩
   ·omega
   ·by_cases e : m = n
    ·rw [e];exact hlast nb q1 q5
    ·exact hmid sb nb m q1 q4 (by omega) (by omega) (by omega)
  ·have:=massey h.g hnz hd
   show n + 1 - s.size ≤ L
   omega

theorem bmi_run {p : Int} (hp : 1 < p) {inv : Int→Int} (hinv : ∀ x,0 < x→x < p→x * inv x % p = 1) (row : List Int) : ∀ n,BMI p (fun i=>row.getD i 0) n (bmRun inv row p n)
 | 0=>bmi0 hp _
 | n + 1=>bmi_step hp hinv (bmi_run hp hinv row n)

def outS (now : List Int) (p : Int) (size : Nat) : List Int:=(List.range size).map fun i=>(-(now.getD (i + 1) 0)) % p
theorem outS_len (now : List Int) (p : Int) (size : Nat) : (outS now p size).length = size:=by simp [outS]
theorem outS_get {now : List Int} {p : Int} {size i : Nat} (h : i < size) : (outS now p size).getD i 0 = (-(now.getD (i + 1) 0)) % p:=by
 rw [outS,List.getD_eq_getElem?_getD,List.getElem?_map,List.getElem?_range h];rfl
end Go.Proofs

/-
  Inverses modulo a number, by Euclid's way, in plain numbers.
-/
namespace Go.Proofs
open Go Go.Abs Go.Nums

def egS : Nat→Int→Int→Int→Int→Int
 | 0,_,_,s,_=>s
 | f + 1,a,b,s,t=>if b = 0 then s else egS f b (a % b) t (s - a / b * t)
def invE (p x : Int) : Int:=egS (p.toNat + 1) (x % p) p 1 0 % p

theorem gcd_mod (a b : Int) : Int.gcd b (a % b) = Int.gcd a b:=by
 rw [Int.emod_def,Int.mul_comm b,Int.gcd_sub_mul_right_right,Int.gcd_comm]
theorem egS_ok {n g : Int} : ∀ (f : Nat) {a b s t : Int},0 ≤ a→0 ≤ b→b < f→Int.gcd a b = 1→eqm n (s * g) a→eqm n (t * g) b→eqm n (egS f a b s t * g) 1
 | 0,a,b,s,t,_,h2,h3,_,_,_=>by omega
 | f + 1,a,b,s,t,h1,h2,h3,h4,h5,h6=>by
  rw [egS]
  by_cases hb : b = 0
  ·rw [if_pos hb]
   subst hb
   rw [Int.gcd_zero_right] at h4
   rw [show a = 1 by omega] at h5
   exact h5
  ·rw [if_neg hb]
   have l1:=Int.emod_nonneg a hb
   have l2:=Int.emod_lt_of_pos a (show 0 < b by omega)
   refine egS_ok f h2 l1 (by omega) (by rw [gcd_mod];exact h4) h6 ?_
   rw [Int.sub_mul,Int.mul_assoc]
   have:=eqm_sub h5 (eqm_mul (rfl : eqm n (a / b) (a / b)) h6)
   refine this.trans ?_
   have e : a - a / b * b = a % b:=by rw [Int.emod_def,Int.mul_comm b]
   rw [e]
theorem invE_ok {p x : Int} (hp : 1 < p) (h : Int.gcd x p = 1) : x * invE p x % p = 1:=by
 have h0 : Int.gcd (x % p) p = 1:=by rw [Int.gcd_comm,gcd_mod];exact h
 have:=egS_ok (n:=p) (g:=x) (p.toNat + 1) (a:=x % p) (b:=p) (s:=1) (t:=0) (Int.emod_nonneg x (by omega)) (by omega) (by omega) h0 (by rw [Int.one_mul];exact (Int.emod_emod ..).symm)
  (by rw [Int.zero_mul];show _ % p = p % p;rw [Int.emod_self,Int.zero_emod])
 have h1 : eqm p (x * invE p x) (egS (p.toNat + 1) (x % p) p 1 0 * x):=by
  rw [Int.mul_comm];exact eqm_mul (eqm_mod p _) rfl
 have h2 : (x * invE p x) % p = 1 % p:=h1.trans this
 rw [h2,Int.emod_eq_of_lt (by omega) hp]
theorem invE_rng {p x : Int} (hp : 0 < p) : 0 ≤ invE p x∧invE p x < p:=⟨Int.emod_nonneg _ (by omega),Int.emod_lt_of_pos _ hp⟩

structure EG (n a b s t : Int) : Prop where
 a0 : 0 ≤ a
 b0 : 0 ≤ b
 an : a ≤ n
 bn : b ≤ n
 g : Int.gcd a b = 1
 sn : s.natAbs ≤ n.natAbs
 tn : t.natAbs ≤ n.natAbs
 st : (0 ≤ s∧t ≤ 0∧s * b - t * a = n) ∨ (s ≤ 0∧0 ≤ t∧t * a - s * b = n)
theorem EG.step {n a b s t : Int} (h : EG n a b s t) (hb : b ≠ 0) : EG n b (a % b) t (s - a / b * t):=by
 obtain ⟨a0,b0,an,bn,g,sn,tn,st⟩:=h
 have l1:=Int.emod_nonneg a hb
 have l2:=Int.emod_lt_of_pos a (show 0 < b by omega)
 have l3 : 0 ≤ a / b:=Int.ediv_nonneg a0 b0
 have l4 : a % b = a - a / b * b:=by rw [Int.emod_def,Int.mul_comm]
 obtain ⟨q,hq⟩ : ∃ q,q = a / b:=⟨_,rfl⟩
 rw [← hq] at l3 l4 ⊢
 have e1 : ∀ x y : Int,x * (a % b) = x * a - x * q * b:=fun x y=>by rw [l4,Int.mul_sub,Int.mul_assoc]
 have key : (t ≤ 0∧0 ≤ s - q * t∧(s - q * t) * b - t * (a % b) = n) ∨ (0 ≤ t∧s - q * t ≤ 0∧t * (a % b) - (s - q * t) * b = n):=by
  have e2 : (s - q * t) * b = s * b - t * q * b:=by rw [Int.sub_mul,Int.mul_comm q t]
  rw [e1 t 0,e2]
  rcases st with ⟨q1,q2,q3⟩ | ⟨q1,q2,q3⟩
  ·have:=Int.mul_nonneg l3 (show 0 ≤ -t by omega)
   rw [Int.mul_neg] at this
   exact .inl ⟨q2,by omega,by omega⟩
  ·have:=Int.mul_nonneg l3 q2
   exact .inr ⟨q2,by omega,by omega⟩
 refine ⟨b0,l1,bn,by omega,by rw [gcd_mod];exact g,tn,?_,?_⟩
 ·rcases key with ⟨q1,q2,q3⟩ | ⟨q1,q2,q3⟩
  ·have h1:=Int.mul_nonneg (show 0 ≤ -t by omega) l1
   rw [Int.neg_mul] at h1
   have h2:=Int.mul_le_mul_of_nonneg_left (show 1 ≤ b by omega) q2
   omega
  ·have h1:=Int.mul_nonneg q1 l1
   have h2:=Int.mul_le_mul_of_nonneg_left (show 1 ≤ b by omega) (show 0 ≤ -(s - q * t) by omega)
   rw [Int.neg_mul,Int.neg_mul] at h2
   omega
 ·rcases key with ⟨q1,q2,q3⟩ | ⟨q1,q2,q3⟩
  ·exact .inr ⟨q1,q2,q3⟩
  ·exact .inl ⟨q1,q2,q3⟩
theorem EG.start {n g : Int} (hn : 1 < n) (h : Int.gcd g n = 1) : EG n (g % n) n 1 0:=by
 have l1:=Int.emod_nonneg g (show n ≠ 0 by omega)
 have l2:=Int.emod_lt_of_pos g (show 0 < n by omega)
 exact ⟨l1,by omega,by omega,Int.le_refl _,by rw [Int.gcd_comm,gcd_mod];exact h,by omega,by omega,.inl ⟨by omega,Int.le_refl _,by omega⟩⟩
theorem EG.last {n a s t : Int} (h : EG n a 0 s t) : a = 1:=by
 have:=h.g
 rw [Int.gcd_zero_right] at this
 have:=h.a0
 omega
end Go.Proofs

/-
  recur: modulo.
-/
-- kv2
namespace Go.Proofs
open Go Go.Abs Go.Nums
attribute [local irreducible] thenA blockA awp aw Stp EndF EndP EndN EndG EndH EndM aOps aOpsM scopeA
set_option linter.unusedSimpArgs false
set_option maxHeartbeats 4000000

theorem lims_set {K : Nat} {l : List Int} {i : Nat} {x : Int} (h : lims K l) (hx : (digs B x.natAbs).length ≤ K) : lims K (l.set i x):=fun n hn=>by
 rcases List.mem_or_eq_of_mem_set hn with h1 | rfl
 ·exact h n h1
 ·exact hx
theorem mod_len {K : Nat} {a m : Int} (hm : 0 < m) (h : (digs B m.natAbs).length ≤ K) : (digs B (a % m).natAbs).length ≤ K:=by
 refine Nat.le_trans (len_mono hB ?_) h
 have h1:=Int.emod_nonneg a (show m ≠ 0 by omega)
 have h2:=Int.emod_lt_of_pos a hm
 omega
theorem lims_modIn {K : Nat} {r : List Int} {m : Int} (hm : 0 < m) (h : (digs B m.natAbs).length ≤ K) (top : Nat) : ∀ (i : Nat) {p : List Int},lims K p→lims K (modIn r m top i p)
 | 0,_,hp=>hp
 | i + 1,_,hp=>lims_set (lims_modIn hm h top i hp) (mod_len hm h)

theorem c_modulo (z : Nm) (g : Nat→Nm) (ob : AObj) (ps r : List Int) (m : Int) (c K : Nat) (hg : ∀ i j,g i = g j→i = j) (hgz : ∀ i,g i ≠ z) (hob : ob = .row tP (ptrsG g ps.length) ∨ ob = .cells tP (ptrsG g ps.length)) (hm0 : 0 < m)
  (hK : K ≤ 10000) (hp : lims K ps) (hr : lims K r) (hm : (digs B m.natAbs).length ≤ K) (hc : ps.length ≤ c) (hl1 : ps.length < 2 ^ 40) (hl2 : r.length < 2 ^ 40) :
  AProc Tryz.prog 53 [.c (.win z 0 ps.length c),psq r,bp m] ((z,ob) :: famL g 0 (ps.map bo)) ((z,ob) :: famL g 0 ((modF r m ps).map bo)) (.c (.win z 0 (min r.length ps.length) c)):=by
 have hmem : ∀ i,i < ps.length→g i ∈ ((z,ob) :: famL g 0 (ps.map bo)).map Prod.fst:=fun i hi=>by
  rw [List.map_cons,famL_fst]
  exact List.mem_cons_of_mem _ (List.mem_map.2 ⟨i,by simpa using hi,by simp⟩)
 have hobN : ∀ x ∈ ob.cls,∀ q,x.at q→∃ i,i < ps.length∧q = g i:=fun x hx q hq=>by
  rcases hob with rfl | rfl <;>
  ·obtain ⟨j,hj,rfl⟩:=ptrsG_mem (show x ∈ ptrsG g ps.length from hx)
   exact ⟨j,hj,hq.symm⟩
 refine aprocM (mu:=muF) Tryz.func53 rfl (by decide) rfl (by decide) (Nat.le_of_ble_eq_true rfl) ?_ ?_ ?_ ?_ ?_ fun S hS=>?_
 ·intro Φ hΦ p hp
  have hz : Rch Φ [AVal.c (.win z 0 ps.length c),psq r,bp m] z:=.base List.mem_cons_self rfl
  rcases List.mem_cons.1 hp with rfl | hp
  ·exact hz
  ·obtain ⟨j,hj,e⟩:=famL_mem hp
   have hlt:=(List.getElem?_eq_some_iff.1 hj).1
   rw [List.length_map] at hlt
   have hc : Cell.ptr (g j) 0 ∈ ob.cls:=by
    rcases hob with rfl | rfl <;> exact List.mem_of_getElem? (ptrsG_get hlt)
   rw [e,Nat.zero_add]
   exact .step hz (hΦ (z,ob) List.mem_cons_self) hc rfl
 ·rw [List.map_cons,List.nodup_cons]
  refine ⟨fun h=>?_,famL_nodup hg _⟩
  rw [famL_fst] at h
  obtain ⟨i,-,e⟩:=List.mem_map.1 h
  exact hgz _ e
 ·simp only [List.map_cons,famL_fst,List.length_map,modTop_len]
 ·intro p hp x hx q hq
  rcases List.mem_cons.1 hp with rfl | hp
  ·obtain ⟨i,hi,rfl⟩:=hobN x hx q hq
   exact hmem i hi
  ·obtain ⟨j,hj,-⟩:=famL_mem hp
   obtain ⟨n,-,e⟩:=List.mem_map.1 (List.mem_of_getElem? hj)
   rw [← e] at hx
   exact absurd hq (bo_nm0 n x hx q)
 ·intro q hq
  have : z = q:=hq
  subst this
  exact List.mem_cons_self
 have hbn : ∀ (l : List Int),∀ o ∈ l.map bo,o.nm0:=fun l o ho=>by obtain ⟨n,-,rfl⟩:=List.mem_map.1 ho;exact bo_nm0 n
 rw [show outM ((z,ob) :: famL g 0 (ps.map bo)) = (.out z,ob.map .out) :: outM (famL g 0 (ps.map bo)) from rfl,outM_fam g _ 0 (hbn ps)]
 obtain ⟨G,hG⟩ : ∃ G : Nat→Nm,G = fun i=>.out (g i):=⟨_,rfl⟩
 obtain ⟨o1,ho1⟩ : ∃ o1,o1 = ob.map .out:=⟨_,rfl⟩
 have hGi : ∀ i j,G i = G j→i = j:=fun i j h=>by rw [hG] at h;injection h with h;exact hg _ _ h
 have hGz : ∀ i,G i ≠ .out z:=fun i h=>by rw [hG] at h;injection h with h;exact hgz _ h
 have ho : o1 = .row tP (ptrsG G ps.length) ∨ o1 = .cells tP (ptrsG G ps.length):=by
  rw [ho1,hG]
  rcases hob with rfl | rfl
  ·exact .inl (by simp only [AObj.map,ptrsG_map])
  ·exact .inr (by simp only [AObj.map,ptrsG_map])
 rw [← ho1,← hG]
 have hU : ((r.map bL).map fun ls=>[Leaf.pim ls]).length = r.length:=by simp
 have hGl : ∀ i d,G i ≠ .loc d:=fun i d h=>by rw [hG] at h;cases h
 have hobG : ∀ x ∈ o1.cls,∀ q,x.at q→∃ i,i < ps.length∧q = G i:=fun x hx q hq=>by
  rcases ho with rfl | rfl <;>
  ·obtain ⟨j,hj,rfl⟩:=ptrsG_mem (show x ∈ ptrsG G ps.length from hx)
   exact ⟨j,hj,hq.symm⟩
 have hrow : ∀ {L : SL},(∀ p ∈ L,p.1 ≠ .out z)→∀ {r : SL},lkS (L ++ (.out z,o1) :: r) (.out z) = some (.row tP (ptrsG G ps.length)) ∨ lkS (L ++ (.out z,o1) :: r) (.out z) = some (.cells tP (ptrsG G ps.length)):=fun {L} hL {r'}=>by
  rw [lkS_skip hL]
  simp only [lkS,if_true,Option.some.injEq]
  exact ho
 have hel : ∀ {L : SL} {p : List Int} {i : Nat},(∀ q ∈ L,∀ i,q.1 ≠ G i)→i < p.length→lkS (L ++ (.out z,o1) :: famL G 0 (p.map bo)) (G i) = some (bo (p.getD i 0)):=fun {L p i} hL hi=>by
  rw [lkS_skip fun q hq=>hL q hq i]
  simp only [lkS,if_neg (hGz i)]
  rw [lkS_fam hGi,List.getElem?_map,List.getElem?_eq_getElem hi,List.getD_eq_getElem?_getD,List.getElem?_eq_getElem hi];rfl
 obtain ⟨R,hR⟩ : ∃ R,R = modF r m ps:=⟨_,rfl⟩
 rw [← hR]
 repeat refine gF ?_
 have hob1 : ∀ p : List Int,p.length = ps.length→∀ x ∈ o1.cls,∀ q,x.at q→∃ i,i < (p.map bo).length∧q = G i:=fun p hp x hx q hq=>by
  obtain ⟨i,hi,e⟩:=hobG x hx q hq
  exact ⟨i,by rw [List.length_map];omega,e⟩
 refine awp_midB (fun st=>Weak st ⟨lk' [(0,.c (.win (.out z) 0 ps.length c)),(7,iv r.length)],ov ((.out z,o1) :: famL G 0 (R.map bo)) (pushS S)⟩) ?_ ?_
 ·refine awp_rep2 (fun (k : Nat) (p : List Int)=>⟨lk' [(0,.c (.win (.out z) 0 ps.length c)),(1,psq r),(2,bp m),(7,iv r.length),(8,ivl .i64 ((k : Int) - 1))],ov ((.out z,o1) :: famL G 0 (p.map bo)) (pushS S)⟩)
   (fun k p=>k ≤ ps.length∧p.length = ps.length∧lims K p∧R = modTop r m (k - r.length) p) (fun k _=>k) ps.length ps ⟨Nat.le_refl _,rfl,hp,hR⟩ ?_ ?_
  ·refine Weak.grp (L:=[]) hS hGi hGz (by simp) (hob1 ps rfl) (hbn ps) ?_
   (repeat' (first | refine fJ ?_ ?_ | exact True.intro);all_goals (try (first | exact kvA | exact kOac | (refine kW (ov_of lks) rfl ?_ ?_))))
  rintro k p ⟨h1,h2,h3,h4⟩
  repeat refine gN ?_
  (refine zw ?_;refine s_cmp (fun g=>?_) (fun g=>?_))
  rotate_left
  ·rw [show k - r.length = 0 by omega,modTop] at h4
   subst h4
   repeat refine gN ?_
   refine Weak.grp (L:=[]) hS hGi hGz (by simp) (hob1 _ h2) (hbn _) ?_
   (repeat' (first | refine fJ ?_ ?_ | exact True.intro);all_goals (try (first | exact kvA | exact kOac | (refine kW (ov_of lks) rfl ?_ ?_))))
  obtain ⟨top,htop⟩ : ∃ top,k = top + 1:=⟨k - 1,by omega⟩
  subst htop
  rw [show top + 1 - r.length = (top - r.length) + 1 by omega,modTop,show r.length + (top - r.length) = top by omega] at h4
  repeat refine gN ?_
  refine awp_midN (fun st=>Weak st ⟨lk' [(0,.c (.win (.out z) 0 ps.length c)),(1,psq r),(2,bp m),(7,iv r.length),(8,iv top)],ov ((.out z,o1) :: famL G 0 ((modIn r m top r.length p).map bo)) (pushS S)⟩) ?_ ?_
  ·refine awp_rep (fun i : Nat=>⟨lk' [(0,.c (.win (.out z) 0 ps.length c)),(1,psq r),(2,bp m),(7,iv r.length),(8,iv top),(22,psq r),(23,iv r.length),(24,iv i)],ov ((.out z,o1) :: famL G 0 ((modIn r m top i p).map bo)) (pushS S)⟩)
    (fun i=>i ≤ r.length) (fun i=>r.length + 1 - i) 0 (Nat.zero_le _) ?_ ?_
   ·refine Weak.grp (L:=[]) hS hGi hGz (by simp) (hob1 p h2) (hbn _) ?_
    (repeat' (first | refine fJ ?_ ?_ | exact True.intro);all_goals (try (first | exact kvA | exact kOac | (refine kW (ov_of lks) rfl ?_ ?_))))
   intro i hi
   obtain ⟨q,hq⟩ : ∃ q,q = modIn r m top i p:=⟨_,rfl⟩
   have hql : q.length = ps.length:=by rw [hq,modIn_len];exact h2
   have hqK : lims K q:=by rw [hq];exact lims_modIn hm0 hm top i h3
   rw [← hq]
   repeat refine gN ?_
   (refine zw ?_;refine s_cmp (fun g2=>?_) (fun g2=>?_))
   rotate_left
   ·have : i = r.length:=by omega
    subst this
    repeat refine gN ?_
    rw [hq]
    refine Weak.grp (L:=[]) hS hGi hGz (by simp) (hob1 _ (by rw [modIn_len];exact h2)) (hbn _) ?_
    (repeat' (first | refine fJ ?_ ?_ | exact True.intro);all_goals (try (first | exact kvA | exact kOac | (refine kW (ov_of lks) rfl ?_ ?_))))
   have hir : i < r.length:=by omega
   obtain ⟨at_,hat⟩ : ∃ at_,at_ = top - 1 - i:=⟨_,rfl⟩
   repeat refine gN ?_
   rw [show (i : Int).toNat = i by omega,psq_get hir]
   repeat refine gN ?_
   rw [show (top : Int) - 1 - (i : Int) = (at_ : Int) by omega]
   have hza : ¬ Nm.out z = G at_:=fun e=>hGz _ e.symm
   have hzt : ¬ Nm.out z = G top:=fun e=>hGz _ e.symm
   refine awp_perm [.out z] [3,7,12] [0,1,2,3,4,5,6,7,8,9,10,11,12,13,14,15] (by decide +kernel) (by intro n hn;simp only [List.mem_cons,List.not_mem_nil,or_false] at hn;first | exact hn.elim | (subst hn;exact ovNe lks) | (rcases hn with rfl | rfl <;> exact ovNe lks) | (rcases hn with rfl | rfl | rfl <;> exact ovNe lks)) ?_
   have hfr : ∀ (d : Nat) (os : List AObj),freeO ((.out z,o1) :: famL G 0 os) d = true:=fun d os=>freeO_cons rfl (freeO_famG (fun i o=>by rw [hG];rfl) os 0)
   have hLg : ∀ (d : Nat) (i : Nat),¬ Nm.loc d = G i:=fun d i e=>hGl i d e.symm
   have h9:=hrow (L:=[]) (by simp) (r:=famL G 0 (q.map bo))
   have h10:=hrow (L:=[(.loc 41,.cells tBig [.sc (.bool false),.sc (.slice none 0 0)])]) (by simp) (r:=famL G 0 (q.map bo))
   have ltop:=lims_get hqK top
   have lat:=lims_get hqK at_
   have lri:=lims_get hr i
   have lmul:=digs_mul_le (q.getD top 0).natAbs (r.getD i 0).natAbs
   rw [← Int.natAbs_mul] at lmul
   obtain ⟨x,hx⟩ : ∃ x,x = q.getD top 0 * r.getD i 0:=⟨_,rfl⟩
   obtain ⟨v,hv⟩ : ∃ v,v = q.getD at_ 0 + x:=⟨_,rfl⟩
   have lv : (digs B v.natAbs).length ≤ 2 * K + 1:=by
    have h5:=digs_add_le (q.getD at_ 0).natAbs x.natAbs
    have h6 : (digs B v.natAbs).length ≤ (digs B ((q.getD at_ 0).natAbs + x.natAbs)).length:=len_mono hB (by rw [hv];exact Int.natAbs_add_le _ _)
    rw [hx] at h5 h6
    omega
   iterate 6 refine gF ?_
   refine zm5 ?_
   refine zf1 ttOk ?_ h9 (j:=at_) (by omega)
   iterate 6 refine gF ?_
   refine zm5 ?_
   refine zf1 ttOk ?_ h9 (j:=at_) (by omega)
   refine zm4 ?_
   refine zg12 ttOk ?_ (hf:=hfr _ _)
   iterate 6 refine gF ?_
   refine zm5 ?_
   refine zf1 ttOk ?_ h10 (j:=top) (by omega)
   iterate 2 refine gF ?_
   have e1:=hel (L:=[(.loc 41,.cells tBig [.sc (.bool false),.sc (.slice none 0 0)])]) (p:=q) (i:=top) (by simp [hLg]) (by omega)
   refine zm4 ?_
   refine s_lend1 (c_mul (.loc 41) (.sc (.bool false)) (.sc (.slice none 0 0)) (bp (q.getD top 0)) (bp (r.getD i 0)) (q.getD top 0) (r.getD i 0) (.im _) (.im _) (by omega) (by omega)) [G top] (lvs3 (lvK (by simp [hLg]) lks) (lvP List.mem_cons_self e1) lv0)
    (lentX1 ⟨ptr (G top),by simp,rfl⟩ e1) ⟨⟨_,List.mem_cons_self,rfl⟩,by simp [hLg]⟩ ⟨rfl,fun m h=>h.symm⟩ (safeO_leaf rfl rfl) (safeO_big rfl) ?_ (hf:=freeO_cons rfl (hfr _ _))
   rw [← hx]
   have e2:=hel (L:=[(.loc 41,bo x),(.loc 41,.cells tBig [.sc (.bool false),.sc (.slice none 0 0)])]) (p:=q) (i:=at_) (by simp [hLg]) (by omega)
   refine zm4 ?_
   refine s_lend1 (c_add (G at_) _ _ (ptr (G at_)) (bp x) (q.getD at_ 0) x (.self _ rfl rfl) (.im x) (by omega) (by rw [hx];omega)) [.loc 41] (lvs3 (lvK (by simp [hGl]) e2) (lvK (by simp [hGl]) e2) (lvP List.mem_cons_self lks))
    (lentX1 ⟨ptr (.loc 41),by simp,rfl⟩ lks) ⟨⟨_,List.mem_cons_self,rfl⟩,by simp [hGl]⟩ ⟨rfl,fun m h=>h.symm⟩ (safeO_big rfl) (safeO_big rfl) ?_ (hm:=e2) (hf:=freeO_cons rfl (freeO_cons rfl (hfr _ _)))
   rw [← hv]
   refine zm6 ?_
   refine thenA_n ?_
   have hob2 : ∀ l : List Int,l.length = ps.length→∀ x ∈ o1.cls,∀ q,x.at q→∃ i,i < (l.map bo).length∧q = G i:=hob1
   refine awp_weak ⟨lk' [(0,.c (.win (.out z) 0 ps.length c)),(1,psq r),(2,bp m),(7,iv r.length),(8,iv top),(11,iv at_),(22,psq r),(23,iv r.length),(24,iv i)],ov ((.out z,o1) :: famL G 0 ((q.map bo).set at_ (bo v))) (pushS S)⟩ ?_ ?_
   ·refine Weak.grpPut (L:=[(.loc 41,bo x),(.loc 41,.cells tBig [.sc (.bool false),.sc (.slice none 0 0)])]) hS hGi hGz (by simp [hLg,Nm.isOut]) (by rw [List.length_map];omega) (hob1 q hql) (hbn q) (bo_nm0 v) ?_
    exact fF (kWin (ovNe lkS_hd) rfl rfl rfl) (fF kQ (fF (kPim rfl) (fF (kN rfl) (fF (kN rfl) (fF (kN rfl) (fF kQ (fF (kN rfl) (fF (kN rfl) trivial))))))))
   rw [← List.map_set]
   obtain ⟨q2,hq2⟩ : ∃ q2,q2 = q.set at_ v:=⟨_,rfl⟩
   have hq2l : q2.length = ps.length:=by rw [hq2,List.length_set,hql]
   have hq2a : q2.getD at_ 0 = v:=by rw [hq2,List.getD_eq_getElem?_getD,List.getElem?_set_self (by omega)];rfl
   rw [← hq2]
   have h11:=hrow (L:=[]) (by simp) (r:=famL G 0 (q2.map bo))
   have e3:=hel (L:=[]) (p:=q2) (i:=at_) (by simp) (by omega)
   rw [hq2a] at e3
   iterate 4 refine gF ?_
   refine zw2 ?_
   refine zf1 ttOk ?_ h11 (j:=at_) (by omega)
   iterate 3 refine gF ?_
   refine zw2 ?_
   refine zf1 ttOk ?_ h11 (j:=at_) (by omega)
   iterate 1 refine gF ?_
   refine zw2 ?_
   refine s_proc (c_mod (G at_) _ _ (ptr (G at_)) v m (.self _ rfl rfl) hm0 (by omega) (by omega)) ?_ (fun p hp=>by simp only [List.mem_singleton] at hp;subst hp;exact e3) (hf:=hfr _ _)
   repeat refine gF ?_
   have e4 : modIn r m top (i + 1) p = q2.set at_ (v % m):=by
    rw [modIn]
    simp only [← hq]
    rw [hq2,List.set_set,hv,hx,hat]
   refine ⟨i + 1,?_,by omega,by omega⟩
   rw [e4,List.map_set]
   refine Weak.grpPut (L:=[]) hS hGi hGz (by simp) (by rw [List.length_map];omega) (hob1 q2 hq2l) (hbn q2) (bo_nm0 _) ?_
   exact fF (kWin (ovNe lkS_hd) rfl rfl rfl) (fF kQ (fF (kPim rfl) (fF (kN rfl) (fF (kN rfl) (fF kQ (fF (kN rfl) (fF (kN rfl) trivial)))))))
  intro st hst
  refine blockA_n (thenA_n ?_)
  refine awp_weak _ hst ?_
  clear hst st
  repeat refine gF ?_
  refine ⟨top,_,?_,⟨by omega,by rw [modIn_len];exact h2,lims_modIn hm0 hm top r.length h3,h4⟩,by omega⟩
  refine Weak.grp (L:=[]) hS hGi hGz (by simp) (hob1 _ (by rw [modIn_len];exact h2)) (hbn _) ?_
  exact fF (kWin (ovNe lkS_hd) rfl rfl rfl) (fF kQ (fF (kPim rfl) (fF (kN rfl) (fF (kN rfl) trivial))))
 intro st hst
 refine awp_weak _ hst ?_
 clear hst st
 have hRl : R.length = ps.length:=by rw [hR,modTop_len]
 repeat refine gF ?_
 rw [show (if (ps.length : Int) < (r.length : Int) then (ps.length : Int) else (r.length : Int)) = ((min r.length ps.length : Nat) : Int) by split <;> omega]
 repeat refine gF ?_
 refine endM ttOk (sl':=(.out z,o1) :: famL G 0 (R.map bo)) (fl':=[(6,.c (.win (.out z) 0 (min r.length ps.length) c))]) (.inr rfl) hS ?_ rfl (frz_grp (ov_of lkS_hd) (fun x hx q hq=>?_) fun i o ho=>⟨ov_of ?_,hbn _ o (List.mem_of_getElem? ho)⟩) ?_ (by exact rfl) (by exact rfl) (by exact rfl)
 ·rw [ho1,hG]
  exact congrArg ((Nm.out z,ob.map .out) :: ·) (outM_fam g _ 0 (hbn R)).symm
 ·obtain ⟨i,hi,rfl⟩:=hobG x hx q hq
  exact ovNe (hel (L:=[]) (p:=R) (i:=i) (by simp) (by omega))
 ·simp only [lkS,if_neg (hGz i)]
  rw [lkS_fam hGi];exact ho
 ·exact fF (kWin (ovNe lkS_hd) rfl rfl rfl) trivial
end Go.Proofs

/-
  big: Exp, modulo a number above 0.
-/
-- kv2
namespace Go.Proofs
open Go Go.Abs Go.Nums
attribute [local irreducible] thenA blockA awp aw Stp EndF EndP EndN EndG aOps
set_option linter.unusedSimpArgs false
set_option maxHeartbeats 4000000

def powS (x m : Int) (y : Nat) : Nat→Int→Int
 | 0,o=>o
 | k + 1,o=>powS x m y k ((if y / 2 ^ k % 2 = 1 then o * o * x else o * o) % m)
def expM (x y m : Int) : Int:=powS (x % m) m y.natAbs (blen y.natAbs) (1 % m)

theorem modlen {a m : Int} (hm : 0 < m) : (digs B (a % m).natAbs).length ≤ (digs B m.natAbs).length:=by
 refine len_mono hB ?_
 have h1:=Int.emod_nonneg a (show m ≠ 0 by omega)
 have h2:=Int.emod_lt_of_pos a hm
 omega

theorem c_exp (z : Nm) (a b : Leaf) (x y m : Int) (hm0 : 0 < m) (hx : (digs B x.natAbs).length < 2 ^ 30) (hy : (digs B y.natAbs).length < 2 ^ 30) (hm : (digs B m.natAbs).length < 2 ^ 30) :
  AProc Tryz.prog 164 [ptr z,bp x,bp y,bp m] [(z,.cells tBig ([a,b].map Leaf.cell))] [(z,bo (expM x y m))] (ptr z):=by
 have h1l : (digs B (1 : Int).natAbs).length < 2 ^ 30:=by rw [show (1 : Int).natAbs = 1 from rfl,digs_one];decide
 have hbl : blen y.natAbs ≤ 64 * (digs B y.natAbs).length:=by rw [blen_le,Nat.pow_mul];exact digs_lt hB y.natAbs
 have hml:=fun a : Int=>modlen (a:=a) hm0
 (refine aproc1 (mu:=muF) Tryz.func164 rfl (by decide) rfl (by decide) (Nat.le_of_ble_eq_true rfl) (by simp [AVal.at,AVal.at1,Cell.at]) (by simp [AVal.at,AVal.at1,Cell.at]) (by simp [AVal.at,AVal.at1,Cell.at]) nmX nmX fun S hS=>?_;simp only [List.map_cons,List.map_nil,AVal.map,AVal.map1,Cell.map])
 repeat refine gN ?_
 (refine zw ?_;refine s_new (c_newint 1 (by omega) (by omega)) ?_)
 repeat refine gN ?_
 (refine zw ?_;refine s_proc (c_set (.loc 14) (.sc (.bool false)) (.sc (.slice none 0 0)) _ x (.im x) (by omega)) ?_ preX)
 repeat refine gN ?_
 refine aw_ptrnil ttOk ?_
 have hU:=U_len (digs B m.natAbs)
 have hpos : 0 < (digs B m.natAbs).length:=by
  refine Nat.pos_of_ne_zero fun h=>?_
  have:=(digs_nil hB).1 (List.eq_nil_of_length_eq_zero h)
  omega
 repeat refine gN ?_
 (refine zw ?_;refine s_cmp (fun g=>?_) (fun g=>?_))
 rotate_left
 ·exact absurd g (by omega)
 repeat refine gN ?_
 (refine zw ?_;refine s_proc (c_mod (.loc 13) _ _ _ 1 m (.self _ rfl rfl) hm0 (by omega) (by omega)) ?_ preX)
 repeat refine gN ?_
 (refine zw ?_;refine s_proc (c_mod (.loc 14) _ _ _ x m (.self _ rfl rfl) hm0 (by omega) (by omega)) ?_ preX)
 ((first | refine aw_fz 14 ?_ ?_ | refine awp_fz 14 ?_ ?_);rotate_left;· (repeat' (first | exact True.intro | refine And.intro ?_ ?_)) <;> first | (show _ ≤ _;simp;done) | (show _ ≤ _;simp;omega) | (show _ ≤ _;omega))
 repeat refine gN ?_
 (refine zw ?_;refine s_call (c_bitlen y (by omega)) ?_)
 repeat refine gN ?_
 refine awp_midB (fun st=>Weak st ⟨lk' [(0,ptr (.out z)),(9,ptr (.loc 13))],ov [(.out z,.cells tBig ([a,b].map Leaf.cell)),(.loc 13,bo (expM x y m))] (pushS S)⟩) ?_ ?_
 ·refine awp_rep2 (fun (k : Nat) (o : Int)=>⟨lk' [(0,ptr (.out z)),(2,bp y),(3,bp m),(9,ptr (.loc 13)),(10,bp (x % m)),(11,bvl true),(12,ivl .i64 ((k : Int) - 1))],ov [(.out z,.cells tBig ([a,b].map Leaf.cell)),(.loc 13,bo o)] (pushS S)⟩)
   (fun k o=>k ≤ blen y.natAbs∧powS (x % m) m y.natAbs k o = expM x y m∧(digs B o.natAbs).length ≤ (digs B m.natAbs).length) (fun k _=>k) (blen y.natAbs) (1 % m) ⟨Nat.le_refl _,rfl,hml _⟩ ?_ ?_
  ·(refine frz1 hS lks nmX (by intro m hm;simp [lkS,addL,delL,Nm.isLoc,hm]) (by exact rfl) ?_ ?_ ?_;rotate_left 1;all_goals (try (repeat' (first | refine fJ ?_ ?_ | exact True.intro);all_goals (try (first | exact kvA | exact kOac | (refine kW (ov_of lks) rfl ?_ ?_))))))
   rfl
  rintro k o ⟨h1,h2,h3⟩
  repeat refine gN ?_
  (refine zw ?_;refine s_cmp (fun g2=>?_) (fun g2=>?_))
  rotate_left
  ·have : k = 0:=by omega
   subst this
   rw [powS] at h2
   subst h2
   repeat refine gN ?_
   (refine frz1 hS lks nmX (by intro m hm;simp [lkS,addL,delL,Nm.isLoc,hm]) (by exact rfl) ?_ ?_ ?_;rotate_left 1;all_goals (try (repeat' (first | refine fJ ?_ ?_ | exact True.intro);all_goals (try (first | exact kvA | exact kOac | (refine kW (ov_of lks) rfl ?_ ?_))))))
   rfl
  obtain ⟨k,rfl⟩ : ∃ j,k = j + 1:=⟨k - 1,by omega⟩
  rw [powS] at h2
  have hmx:=hml x
  have e2:=digs_mul_le o.natAbs o.natAbs
  rw [← Int.natAbs_mul] at e2
  have e3:=digs_mul_le (o * o).natAbs (x % m).natAbs
  rw [← Int.natAbs_mul] at e3
  repeat refine gN ?_
  (refine zw ?_;refine s_proc (c_mul (.loc 13) _ _ _ _ o o (.self _ rfl rfl) (.self _ rfl rfl) (by omega) (by omega)) ?_ preX)
  repeat refine gN ?_
  rw [show ((k + 1 : Nat) : Int) - 1 = (k : Int) by omega]
  (refine zw ?_;refine s_call (c_bit y k (by omega) (by omega)) ?_)
  repeat refine gN ?_
  (refine zw ?_;refine s_cmp (fun g3=>?_) (fun g3=>?_))
  ·rw [if_pos (by omega)] at h2
   repeat refine gN ?_
   (refine zw ?_;refine s_proc (c_mul (.loc 13) _ _ _ _ (o * o) (x % m) (.self _ rfl rfl) (.im _) (by omega) (by omega)) ?_ preX)
   repeat refine gN ?_
   (refine zw ?_;refine s_proc (c_mod (.loc 13) _ _ _ (o * o * (x % m)) m (.self _ rfl rfl) hm0 (by omega) (by omega)) ?_ preX)
   repeat refine gN ?_
   refine ⟨k,_,?_,⟨by omega,h2,hml _⟩,by omega⟩
   (refine frz1 hS lks nmX (by intro m hm;simp [lkS,addL,delL,Nm.isLoc,hm]) (by exact rfl) ?_ ?_ ?_;rotate_left 1;all_goals (try (repeat' (first | refine fJ ?_ ?_ | exact True.intro);all_goals (try (first | exact kvA | exact kOac | (refine kW (ov_of lks) rfl ?_ ?_))))))
   rfl
  ·rw [if_neg (by omega)] at h2
   repeat refine gN ?_
   (refine zw ?_;refine s_proc (c_mod (.loc 13) _ _ _ (o * o) m (.self _ rfl rfl) hm0 (by omega) (by omega)) ?_ preX)
   repeat refine gN ?_
   refine ⟨k,_,?_,⟨by omega,h2,hml _⟩,by omega⟩
   (refine frz1 hS lks nmX (by intro m hm;simp [lkS,addL,delL,Nm.isLoc,hm]) (by exact rfl) ?_ ?_ ?_;rotate_left 1;all_goals (try (repeat' (first | refine fJ ?_ ?_ | exact True.intro);all_goals (try (first | exact kvA | exact kOac | (refine kW (ov_of lks) rfl ?_ ?_))))))
   rfl
 intro st hst
 refine awp_weak _ hst ?_
 clear hst st
 have hle : (digs B (expM x y m).natAbs).length ≤ (digs B m.natAbs).length:=by
  have : ∀ k o,(digs B o.natAbs).length ≤ (digs B m.natAbs).length→(digs B (powS (x % m) m y.natAbs k o).natAbs).length ≤ (digs B m.natAbs).length:=by
   intro k
   induction k with
   | zero=>intro o h;exact h
   | succ k ih=>intro o _;exact ih _ (hml _)
  exact this _ _ (hml 1)
 ((first | refine aw_fz 13 ?_ ?_ | refine awp_fz 13 ?_ ?_);rotate_left;· (repeat' (first | exact True.intro | refine And.intro ?_ ?_)) <;> first | (show _ ≤ _;simp;done) | (show _ ≤ _;simp;omega) | (show _ ≤ _;omega))
 repeat refine gN ?_
 (refine zw ?_;refine s_proc (c_set (.out z) _ _ _ (expM x y m) (.im _) (by omega)) ?_ preX)
 repeat refine gN ?_
 (refine endP1 ttOk (fl':=[(8,ptr (.out z))]) (.inr rfl) hS lks nmX (by intro m hm;simp [lkS,addL,delL,Nm.isLoc,hm]) ?_ ?_ (by exact rfl) (by exact rfl) (by exact rfl))
 ·rfl
 ·(repeat' (first | refine fJ ?_ ?_ | exact True.intro);all_goals (try (first | exact kvA | exact kOac | (refine kW (ov_of lks) rfl ?_ ?_))))
end Go.Proofs
