/-
  Contracts of functions: part Nh (no statement by itself).
-/
import Derived.Test.YtdbjhcgogmfghaaGreatDoorNb
import Derived.Test.YtdbjhcgogmfghaaGreatDoorNg
import Derived.Test.YtdbjhcgogmfghaaGreatDoorNd
import Derived.Test.YtdbjhcgogmfghaaGreatDoorMag
set_option linter.unusedVariables false
set_option linter.unusedSimpArgs false
set_option linter.unnecessarySimpa false

/-
  recur: Mod, where it tells a number.
-/
-- kv2
namespace Go.Proofs
open Go Go.Abs Go.Nums
attribute [local irreducible] thenA blockA awp aw Stp EndF EndP EndN EndG EndH EndM aOps aOpsM scopeA
set_option linter.unusedSimpArgs false
set_option linter.unusedVariables false
set_option maxHeartbeats 4000000

theorem ovN {sl : SL} {S : Store} {m : Nm} (h : lkS sl m = none) (h2 : pushS S m = none) : ov sl (pushS S) m = none:=by simp only [ov,h,h2]
theorem c8_nm0 : (AObj.cells 28 [.sc (.bool false),.sc (.slice none 0 0)]).nm0:=by
 intro x hx m hm
 simp only [AObj.cls,List.mem_cons,List.not_mem_nil,or_false] at hx
 rcases hx with rfl | rfl <;> exact hm

theorem kGrp {A B : Store} {z : Nm} {g : Nat→Nm} {l : List Int} {len cm n : Nat} (hz : A z = some (.row tP (ptrsG g n)) ∨ A z = some (.cells tP (ptrsG g n))) (hbz : B z = none) (hl : len ≤ l.length) (hn : len ≤ n) (hA : ∀ i,i < l.length→A (g i) = some (bo (l.getD i 0))) (hB : ∀ i,B (g i) = none) :
  FrzV A B (.c (.win z 0 len cm)) (psq (l.take len)):=by
 refine kSeqP (ty':=tBig) hz hbz (by simp;omega) hn fun i ls h=>?_
 rw [List.getElem?_map,Option.map_eq_some_iff] at h
 obtain ⟨x,h1,rfl⟩:=h
 have hi:=(List.getElem?_eq_some_iff.1 h1).1
 rw [List.length_take] at hi
 rw [List.getElem?_take_of_lt (by omega)] at h1
 refine ⟨?_,hB i⟩
 rw [hA i (by omega),List.getD_eq_getElem?_getD,h1];rfl

def consG (a : Nm) (g : Nat→Nm) : Nat→Nm
 | 0=>a
 | i + 1=>g i
theorem consG_inj {a : Nm} {g : Nat→Nm} (hg : ∀ i j,g i = g j→i = j) (h : ∀ i,g i ≠ a) : ∀ i j,consG a g i = consG a g j→i = j
 | 0,0,_=>rfl
 | 0,j + 1,e=>absurd e.symm (h j)
 | i + 1,0,e=>absurd e (h i)
 | i + 1,j + 1,e=>by rw [hg i j e]
theorem consG_ne {a b : Nm} {g : Nat→Nm} (h1 : a ≠ b) (h : ∀ i,g i ≠ b) : ∀ i,consG a g i ≠ b
 | 0=>h1
 | i + 1=>h i

theorem flat1 : ∀ l : List Cell,(l.map fun c=>[c]).flatten = l
 | []=>rfl
 | x :: l=>by simp [flat1 l]
theorem consG_ptrs (a : Nm) (g : Nat→Nm) (n : Nat) : ptrsG (consG a g) (n + 1) = .ptr a 0 :: ptrsG g n:=by
 simp only [ptrsG,List.range_succ_eq_map,List.map_cons,List.map_map]
 rfl

theorem c_recmod (fs bs : List Int) (n m : Nat) (hL : fs.length = bs.length) (h64 : bs.length ≤ 64) (hm0 : 0 < m) (hm : (digs B m).length ≤ 16) (hn : (digs B n).length ≤ 1) (hf : lims 4096 fs) (hb : lims 4096 bs) (hr1 : allR (fs.map zp) = true) (hr2 : allR (bs.map zp) = true)
  (hr3 : allR [(false,digs B n),(false,digs B m)] = true) :
  AFun Tryz.prog 16 [zsq fs,zsq bs,wi false (digs B n),wi false (digs B m)] (.tup [wz (modR fs bs m n (blen n)),ivl .i64 0]):=by
 have hU1 : ((fs.map zp).map rowI).length = fs.length:=by simp
 have hU2 : ((bs.map zp).map rowI).length = bs.length:=by simp
 have hz : ∀ (l : List Int),lims 4096 l→∀ p ∈ l.map zp,p.2.length < 2 ^ 60:=fun l hl p hp=>by
  obtain ⟨n,h1,rfl⟩:=List.mem_map.1 hp
  have:=hl n h1
  show (digs B n.natAbs).length < _
  omega
 have hUn:=U_len (digs B n)
 have hUm:=U_len (digs B m)
 refine aF (mu:=muF) Tryz.func16 fun S hS=>?_
 repeat refine gN ?_
 (refine zw ?_;refine s_call (c_rightall (fs.map zp) (by simp;omega) (hz fs hf)) ?_)
 rw [hr1]
 repeat refine gN ?_
 (refine zw ?_;refine s_call (c_rightall (bs.map zp) (by simp;omega) (hz bs hb)) ?_)
 rw [hr2]
 repeat refine gN ?_
 (refine zw ?_;refine s_bld (out:=[.sc (.bool false),.ints .u64 (U (digs B n)),.sc (.bool false),.ints .u64 (U (digs B m))]) ttOk ?_)
 refine aw_weak ⟨lk' [(0,zsq fs),(1,zsq bs),(6,ptr (.loc 6)),(7,ptr (.loc 7)),(8,ptr (.loc 8)),(32,bvl false),(35,isq [(false,digs B n),(false,digs B m)])],ov [(.loc 8,.cells 28 [.sc (.bool false),.sc (.slice none 0 0)]),(.loc 7,.cells 28 [.sc (.bool false),.ints .u64 (U (digs B m))]),(.loc 6,.cells 28 [.sc (.bool false),.ints .u64 (U (digs B n))])] (pushS S)⟩ ?_ ?_
 ·(refine fz hS ?_ ?_;all_goals (repeat' (first | refine fJ ?_ ?_ | exact True.intro));all_goals (try (first | exact kvA | exact kOac | (refine kW (ov_of lks) rfl ?_ ?_))))
  exact kSeq2 (ov_of lks) rfl (.keep fun m h=>h.elim) (.keep fun m h=>h.elim) (.keep fun m h=>h.elim) (.keep fun m h=>h.elim)
 repeat refine gN ?_
 (refine zw ?_;refine s_call (c_rightall [(false,digs B n),(false,digs B m)] (by simp) (fun p hp=>by simp only [List.mem_cons,List.not_mem_nil,or_false] at hp;rcases hp with rfl | rfl <;> (simp only;omega))) ?_)
 rw [hr3]
 repeat refine gN ?_
 (refine zw ?_;refine s_cmp (fun g1=>?_) (fun g1=>?_))
 ·exact absurd g1 (by omega)
 repeat refine gN ?_
 have hmp : 0 < (digs B m).length:=by
  refine Nat.pos_of_ne_zero fun h=>?_
  have:=(digs_nil hB).1 (List.eq_nil_of_length_eq_zero h)
  omega
 (refine zw ?_;refine s_cmp (fun g2=>?_) (fun g2=>?_))
 ·exact absurd g2 (by omega)
 repeat refine gN ?_
 (refine zw ?_;refine s_cmp (fun g3=>?_) (fun g3=>?_))
 ·exact absurd g3 (by omega)
 repeat refine gN ?_
 (refine zw ?_;refine s_cmp (fun g4=>?_) (fun g4=>?_))
 ·exact absurd g4 (by omega)
 repeat refine gN ?_
 (refine zw ?_;refine s_cmp (fun g5=>?_) (fun g5=>?_))
 ·exact absurd g5 (by omega)
 repeat refine gN ?_
 refine awp_weak ⟨lk' [(0,zsq fs),(1,zsq bs),(6,.c (.pim [.sc (.bool false),.ints .u64 (U (digs B n))])),(7,.c (.pim [.sc (.bool false),.ints .u64 (U (digs B m))])),(8,ptr (.loc 8))],ov [(.loc 8,.cells 28 [.sc (.bool false),.sc (.slice none 0 0)])] (pushS S)⟩ ?_ ?_
 ·(refine fz hS ?_ ?_;all_goals (repeat' (first | refine fJ ?_ ?_ | exact True.intro));all_goals (try (first | exact kvA | exact kOac | (refine kW (ov_of lks) rfl ?_ ?_))))
 have hcm : ∀ k : Nat,(digs B k).length < 2 ^ 36→AFun Tryz.prog 51 [wi false (digs B k)] (bp k):=fun k hk=>by
  have h:=c_exint false (digs B k) (rng_digs hB _) hk (by intro h;cases h)
  rw [val_digs hB] at h
  exact h.pim
 have hlf : ∀ n ∈ fs,(digs B n.natAbs).length < 2 ^ 36:=fun n h=>by have:=hf n h;omega
 have hlb : ∀ n ∈ bs,(digs B n.natAbs).length < 2 ^ 36:=fun n h=>by have:=hb n h;omega
 refine awp_perm [] [4,6] [4,6,0,1,2,3,5,7,8,9,10,11] (by decide +kernel) (fun n hn=>by cases hn) ?_
 iterate 4 refine gF ?_
 iterate 2 refine gF ?_
 refine zm4 ?_
 refine s_madeF (c_numbers bs (by omega) hlb) ?_
 iterate 2 refine gF ?_
 refine zm4 ?_
 refine s_madeF (c_numbers fs (by omega) hlf) ?_
 refine zm4 ?_
 refine s_call (hcm m (by omega)) ?_ (hf:=freeO_cons rfl (freeO_app (freeO_cons rfl (freeO_app rfl (freeO_famD rfl))) (freeO_famD rfl)))
 refine zm4 ?_
 refine s_call (hcm n (by omega)) ?_ (hf:=freeO_cons rfl (freeO_app (freeO_cons rfl (freeO_app rfl (freeO_famD rfl))) (freeO_famD rfl)))
 repeat refine gF ?_
 obtain ⟨r,hr⟩ : ∃ r,r = bs.map (· % (m : Int)):=⟨_,rfl⟩
 have hrl : r.length = bs.length:=by rw [hr,List.length_map]
 have hm0' : (0 : Int) < m:=by omega
 have hbn : ∀ (l : List Int),∀ o ∈ l.map bo,o.nm0:=fun l o ho=>by obtain ⟨n,-,rfl⟩:=List.mem_map.1 ho;exact bo_nm0 n
 refine awp_midB (fun st=>Weak st ⟨lk' [(8,ptr (.loc 8)),(10,psq r),(11,psq fs),(12,bp m),(13,bp n)],ov [(.loc 8,.cells 28 [.sc (.bool false),.sc (.slice none 0 0)])] (pushS S)⟩) ?_ ?_
 ·obtain ⟨ob,hob⟩ : ∃ ob : AObj,ob = accP tP (.fam (.loc 79)) bs.length:=⟨_,rfl⟩
  have hobG : ∀ l : List Int,l.length = bs.length→∀ x ∈ ob.cls,∀ q,x.at q→∃ i,i < (l.map bo).length∧q = Nm.fam (.loc 79) i:=fun l hl x hx q hq=>by
   rw [hob] at hx
   obtain ⟨j,hj,e⟩:=accP_nm hx hq
   exact ⟨j,by rw [List.length_map];omega,e⟩
  refine awp_rep (fun i : Nat=>⟨lk' [(8,ptr (.loc 8)),(10,.accv (.loc 79) bs.length),(11,psq fs),(12,bp m),(13,bp n),(86,.accv (.loc 79) bs.length),(87,iv bs.length),(88,iv i)],ov ((.loc 8,.cells 28 [.sc (.bool false),.sc (.slice none 0 0)]) :: (.loc 79,ob) :: famL (.fam (.loc 79)) 0 (((bs.take i).map (· % (m : Int)) ++ bs.drop i).map bo)) (pushS S)⟩)
   (fun i=>i ≤ bs.length) (fun i=>bs.length + 1 - i) 0 (Nat.zero_le _) ?_ ?_
  ·have hf1 : ∀ (i : Nat) (o : AObj),(bs.map bo)[i]? = some o→lkS ((Nm.loc 81,accP tP (Nm.fam (.loc 81)) fs.length) :: (((Nm.loc 79,accP tP (Nm.fam (.loc 79)) bs.length) :: ([(.loc 8,.cells 28 [.sc (.bool false),.sc (.slice none 0 0)])] ++ famL (Nm.fam (.loc 79)) 0 (bs.map bo))) ++ famL (Nm.fam (.loc 81)) 0 (fs.map bo))) (.fam (.loc 79) i) = some o:=fun i o h=>by
    simp only [lkS,lkS_app,reduceCtorEq,if_false]
    rw [lkS_fam (fam_inj _),h]
   have hf2 : ∀ (i : Nat) (ls : List Leaf),(fs.map bL)[i]? = some ls→lkS ((Nm.loc 81,accP tP (Nm.fam (.loc 81)) fs.length) :: (((Nm.loc 79,accP tP (Nm.fam (.loc 79)) bs.length) :: ([(.loc 8,.cells 28 [.sc (.bool false),.sc (.slice none 0 0)])] ++ famL (Nm.fam (.loc 79)) 0 (bs.map bo))) ++ famL (Nm.fam (.loc 81)) 0 (fs.map bo))) (.fam (.loc 81) i) = some (.cells tBig (ls.map Leaf.cell)):=fun i ls h=>by
    rw [List.getElem?_map,Option.map_eq_some_iff] at h
    obtain ⟨n,h1,rfl⟩:=h
    simp only [lkS,lkS_app,reduceCtorEq,if_false]
    rw [lkS_famN (fun j e=>by simp at e),lkS_fam (fam_inj _),List.getElem?_map,h1];rfl
   refine Weak.grpA (K:=[(.loc 8,.cells 28 [.sc (.bool false),.sc (.slice none 0 0)])]) (m:=.loc 79) (ob:=ob) (g:=.fam (.loc 79)) (os:=bs.map bo) hS (fam_inj _) (fun i e=>by cases e) (fun q=>by simp only [lkS,lkS_app,lkS_famO,reduceCtorEq,if_false,List.cons_append,List.nil_append]) rfl (fun _=>rfl) (fun p hp=>?_) (by rw [hob];exact lkS_tl (by simp) lkS_hd) (fun i o ho=>⟨hf1 i o ho,hbn bs o (List.mem_of_getElem? ho)⟩) (hobG bs rfl) ?_
   ·simp only [List.mem_singleton] at hp
    subst hp
    exact ⟨lkS_tl (by simp) (lkS_tl (by simp) lkS_hd),c8_nm0,rfl,by simp,fun i=>by simp⟩
   ·have hB81 : ∀ {l : List AObj},ov ((.loc 8,.cells 28 [.sc (.bool false),.sc (.slice none 0 0)]) :: (Nm.loc 79,ob) :: famL (Nm.fam (.loc 79)) 0 l) (pushS S) (.loc 81) = none:=fun {l}=>ovN (by simp only [lkS,reduceCtorEq,if_false];simp [lkS_famLoc]) rfl
    have hB81f : ∀ {l : List AObj} (i : Nat),ov ((.loc 8,.cells 28 [.sc (.bool false),.sc (.slice none 0 0)]) :: (Nm.loc 79,ob) :: famL (Nm.fam (.loc 79)) 0 l) (pushS S) (.fam (.loc 81) i) = none:=fun {l} i=>ovN (by simp only [lkS,reduceCtorEq,if_false];exact lkS_famN (fun j e=>by simp at e) _ _) rfl
    have hk79 : ∀ k,k = bs.length→FrzV (ov ((Nm.loc 81,accP tP (Nm.fam (.loc 81)) fs.length) :: (((Nm.loc 79,accP tP (Nm.fam (.loc 79)) bs.length) :: ([(.loc 8,.cells 28 [.sc (.bool false),.sc (.slice none 0 0)])] ++ famL (Nm.fam (.loc 79)) 0 (bs.map bo))) ++ famL (Nm.fam (.loc 81)) 0 (fs.map bo))) (pushS S)) (ov ([(.loc 8,.cells 28 [.sc (.bool false),.sc (.slice none 0 0)])] ++ (.loc 79,ob) :: famL (.fam (.loc 79)) 0 (bs.map bo)) (pushS S)) (.accv (.loc 79) bs.length) (.accv (.loc 79) k):=fun k hk =>
     kAccK (ov_of (lkS_tl (by simp) lkS_hd)) (ov_of (by rw [hob];exact lkS_tl (by simp) lkS_hd)) (by simp [ptrsG_len]) (by simp [ptrsG_len,hk])
    exact fF (kPtr (ovNe lkS_hd)) (fF (hk79 _ rfl) (fF (kAccP (ov_of lkS_hd) hB81 (by simp) fun i ls h=>⟨ov_of (hf2 i ls h),hB81f i⟩) (fF (kPim rfl) (fF (kPim rfl) (fF (hk79 _ rfl) (fF (kN rfl) (fF (kN rfl) trivial)))))))
  intro i hi
  obtain ⟨w,hw⟩ : ∃ w,w = (bs.take i).map (· % (m : Int)) ++ bs.drop i:=⟨_,rfl⟩
  have hwl : w.length = bs.length:=by rw [hw];simp;omega
  have hkeep : ∀ (l : List AObj) (k : Nat),k = bs.length→FrzV (ov ((.loc 8,.cells 28 [.sc (.bool false),.sc (.slice none 0 0)]) :: (.loc 79,ob) :: famL (.fam (.loc 79)) 0 l) (pushS S)) (ov ((.loc 8,.cells 28 [.sc (.bool false),.sc (.slice none 0 0)]) :: (.loc 79,ob) :: famL (.fam (.loc 79)) 0 l) (pushS S)) (.accv (.loc 79) bs.length) (.accv (.loc 79) k):=fun l k hk =>
   kAccK (ov_of (by rw [hob];exact lkS_tl (by simp) lkS_hd)) (ov_of (by rw [hob];exact lkS_tl (by simp) lkS_hd)) (by simp [ptrsG_len]) (by simp [ptrsG_len,hk])
  rw [← hw]
  repeat refine gN ?_
  (refine zw ?_;refine s_cmp (fun g=>?_) (fun g=>?_))
  rotate_left
  ·repeat refine gN ?_
   have : i = bs.length:=by omega
   subst this
   rw [List.take_length,List.drop_length,List.append_nil,← hr] at hw
   rw [hw]
   have hlk : ∀ (i : Nat) (ls : List Leaf),(r.map bL)[i]? = some ls→lkS ((.loc 8,.cells 28 [.sc (.bool false),.sc (.slice none 0 0)]) :: (.loc 79,ob) :: famL (.fam (.loc 79)) 0 (r.map bo)) (.fam (.loc 79) i) = some (.cells tBig (ls.map Leaf.cell)):=fun i ls h=>by
    rw [List.getElem?_map,Option.map_eq_some_iff] at h
    obtain ⟨n,h1,rfl⟩:=h
    simp only [lkS,reduceCtorEq,if_false]
    rw [lkS_fam (fam_inj _),List.getElem?_map,h1];rfl
   refine frzO hS (fun q=>?_) (fS (.of_nm0 c8_nm0) trivial (ov_of lkS_hd)) ?_
   ·simp only [lkS,reduceCtorEq,if_false]
    exact (lkS_famN (fun i e=>by cases e) _ _).symm
   ·exact fF (kPtr (ovNe lkS_hd)) (fF (kAccP (ov_of (by rw [hob];exact lkS_tl (by simp) lkS_hd)) (ovN (by simp [lkS]) rfl) (by simp [hrl]) fun i ls h=>⟨ov_of (hlk i ls h),ovN (by simp [lkS]) rfl⟩) (fF kQ (fF (kPim rfl) (fF (kPim rfl) trivial))))
  have hib : i < bs.length:=by omega
  have hwi : w.getD i 0 = bs.getD i 0:=by
   rw [hw,List.getD_eq_getElem?_getD,List.getElem?_append_right (by simp;omega),List.getElem?_drop,List.getD_eq_getElem?_getD]
   congr 2
   simp;omega
  have lb:=lims_get hb i
  have e3 : lkS ((.loc 8,.cells 28 [.sc (.bool false),.sc (.slice none 0 0)]) :: (.loc 79,ob) :: famL (.fam (.loc 79)) 0 (w.map bo)) (.fam (.loc 79) i) = some (bo (bs.getD i 0)):=by
   simp only [lkS,reduceCtorEq,if_false]
   rw [lkS_fam (fam_inj _),List.getElem?_map,List.getElem?_eq_getElem (by omega),← hwi,List.getD_eq_getElem?_getD,List.getElem?_eq_getElem (by omega)];rfl
  have e79 : lkS ((.loc 8,.cells 28 [.sc (.bool false),.sc (.slice none 0 0)]) :: (.loc 79,ob) :: famL (.fam (.loc 79)) 0 (w.map bo)) (.loc 79) = some (accP tP (.fam (.loc 79)) bs.length):=by rw [hob];exact lkS_tl (by simp) lkS_hd
  iterate 11 refine gN ?_
  refine zw1 ?_
  refine zf2 ttOk ?_ e79 (j:=i) (by omega)
  repeat refine gF ?_
  refine zw1 ?_
  refine s_proc (c_mod (.fam (.loc 79) i) _ _ (ptr (.fam (.loc 79) i)) (bs.getD i 0) m (.self _ rfl rfl) hm0' (by omega) (by rw [Int.natAbs_natCast];omega)) ?_ (fun p hp=>by simp only [List.mem_singleton] at hp;subst hp;exact e3) (hf:=freeO_cons rfl (freeO_cons rfl (freeO_famD rfl)))
  have e4 : w.set i (bs.getD i 0 % m) = (bs.take (i + 1)).map (· % (m : Int)) ++ bs.drop (i + 1):=by
   have e5 : bs.drop i = bs.getD i 0 :: bs.drop (i + 1):=by
    rw [List.drop_eq_getElem_cons (by omega),List.getD_eq_getElem?_getD,List.getElem?_eq_getElem (by omega)];rfl
   have e6 : bs.take (i + 1) = bs.take i ++ [bs.getD i 0]:=by
    rw [List.take_add_one,List.getD_eq_getElem?_getD,List.getElem?_eq_getElem (by omega)];rfl
   rw [hw,List.set_append_right _ _ (by simp;omega),e5,e6,show i - ((bs.take i).map (· % (m : Int))).length = 0 by simp;omega,List.set_cons_zero,List.map_append,List.append_assoc];rfl
  have eput:=fam_put (fam_inj (.loc 79)) (lits:=[(.loc 8,.cells 28 [.sc (.bool false),.sc (.slice none 0 0)]),(.loc 79,ob)]) (fun i=>by simp [lkS]) (os:=w.map bo) (j:=i) (by rw [List.length_map];omega) (bo (bs.getD i 0 % m)) (pushS S)
  rw [← List.map_set,e4] at eput
  refine aw_sg (by exact eput) ?_
  repeat refine gF ?_
  refine ⟨i + 1,?_,by omega,by omega⟩
  refine Weak.grp1 hS (fam_inj _) (fun i e=>by cases e) rfl rfl (fun _=>rfl) c8_nm0 (by simp) (fun i=>by simp) (hbn _) (hobG _ (by simp;omega)) ?_
  exact fF (kPtr (ovNe lkS_hd)) (fF (hkeep _ _ rfl) (fF kQ (fF (kPim rfl) (fF (kPim rfl) (fF (hkeep _ _ rfl) (fF (kN rfl) (fF (kN rfl) trivial)))))))
 intro st hst
 refine awp_weak _ hst ?_
 clear hst st
 repeat refine gN ?_
 (refine zw ?_;refine s_new (c_newint 1 (by omega) (by omega)) ?_)
 (refine zw ?_;refine s_bld (out:=[.ptr (.loc 97) 0]) ttOk ?_)
 repeat refine gN ?_
 have hrK : lims 16 r:=fun x hx=>by
  rw [hr] at hx
  obtain ⟨y,-,rfl⟩:=List.mem_map.1 hx
  exact mod_len hm0' (by rw [Int.natAbs_natCast];exact hm)
 have hmK : (digs B (m : Int).natAbs).length ≤ 16:=by rw [Int.natAbs_natCast];exact hm
 have l1 : lims 16 [1]:=fun x hx=>by
  simp only [List.mem_singleton] at hx
  subst hx
  rw [show (1 : Int).natAbs = 1 from rfl,digs_one];decide
 obtain ⟨g1,hg1⟩ : ∃ g1,g1 = consG (.loc 97) (.fam (.loc 1001)):=⟨_,rfl⟩
 have hg1i : ∀ i j,g1 i = g1 j→i = j:=by rw [hg1];exact consG_inj (fam_inj _) (fun i e=>by cases e)
 have hg1n : ∀ b : Nm,Nm.loc 97 ≠ b→(∀ i,Nm.fam (.loc 1001) i ≠ b)→∀ i,g1 i ≠ b:=fun b h1 h2=>by rw [hg1];exact consG_ne h1 h2
 have hc1:=c_modulo (.loc 98) g1 (.cells tP [.ptr (.loc 97) 0]) [1] r m 1 16 hg1i (hg1n _ (by simp) (fun i e=>by cases e)) (.inr (by rw [hg1];rfl)) hm0' (by omega) l1 hrK hmK (by simp) (by decide) (by omega)
 rw [show ([1] : List Int).length = 1 from rfl] at hc1
 have hm1l : (modF r m [1]).length = 1:=by rw [modTop_len];rfl
 refine zw1 ?_
 refine s_procM hc1 (fun p hp=>?_) ?_ ?_ (by exact fro)
 ·rw [hg1] at hp
  simp only [List.map_cons,List.map_nil,famL,List.mem_cons,List.not_mem_nil,or_false] at hp
  rcases hp with rfl | rfl
  ·exact lkS_hd
  ·exact lkS_tl (by simp [consG]) lkS_hd
 ·rw [List.map_cons,List.nodup_cons]
  exact ⟨fun h=>by rw [famL_fst] at h;obtain ⟨i,-,e⟩:=List.mem_map.1 h;exact hg1n (.loc 98) (by simp) (fun i e=>by cases e) _ e,famL_nodup hg1i _⟩
 obtain ⟨w0,hw0⟩ : ∃ w0,w0 = (modF r m [1]).take (min r.length 1):=⟨_,rfl⟩
 refine aw_weak ⟨lk' [(8,ptr (.loc 8)),(10,psq r),(11,psq fs),(12,bp m),(13,bp n),(101,psq w0)],ov [(.loc 8,.cells 28 [.sc (.bool false),.sc (.slice none 0 0)])] (pushS S)⟩ ?_ ?_
 ·have h8 : ∀ i,g1 i ≠ .loc 8:=hg1n _ (by simp) (fun i e=>by cases e)
  have h98 : ∀ i,g1 i ≠ .loc 98:=hg1n _ (by simp) (fun i e=>by cases e)
  have ho : ∀ q i,Nm.out q ≠ g1 i:=fun q i e=>by rw [hg1] at e;cases i <;> cases e
  refine frzO hS (fun q=>?_) (fS (.of_nm0 c8_nm0) trivial (ov_of ?_)) ?_
  ·simp only [List.cons_append,lkS,reduceCtorEq,if_false]
   rw [lkS_app,lkS_famN (ho q)]
   simp only [lkS,reduceCtorEq,if_false]
  ·simp only [List.cons_append,lkS,reduceCtorEq,if_false]
   rw [if_neg (by simp),lkS_app,lkS_famN fun i e=>h8 i e.symm]
   exact lkS_tl (by simp) (lkS_tl (by simp) lkS_hd)
  ·refine fF (kPtr (ovNe lkS_hd)) (fF kQ (fF kQ (fF (kPim rfl) (fF (kPim rfl) (fF ?_ trivial)))))
   rw [hw0]
   refine kGrp (g:=g1) (n:=1) (.inr (ov_of (by rw [hg1];exact lkS_hd))) (ovN rfl rfl) (by rw [hm1l];omega) (by omega) (fun i hi=>ov_of ?_) (fun i=>ovN ?_ ?_)
   ·simp only [List.cons_append,lkS,if_neg (h98 i)]
    rw [lkS_app,lkS_fam hg1i,List.getElem?_map,List.getElem?_eq_getElem hi,List.getD_eq_getElem?_getD,List.getElem?_eq_getElem hi];rfl
   ·simp only [lkS,if_neg (h8 i)]
   ·rw [hg1];cases i <;> rfl
 repeat refine gN ?_
 (refine zw ?_;refine s_call (c_bitlen n (by rw [Int.natAbs_natCast];omega)) ?_)
 rw [Int.natAbs_natCast]
 have hbl : blen n ≤ 64 * (digs B n).length:=by rw [blen_le,Nat.pow_mul];exact digs_lt hB n
 have hw0l : w0.length ≤ r.length:=by rw [hw0,List.length_take];omega
 have htake : ∀ (l : List Int) (k : Nat),lims 16 l→lims 16 (l.take k):=fun l k h x hx=>h x (List.mem_of_mem_take hx)
 have hmodK : ∀ l : List Int,lims 16 l→lims 16 (modF r m l):=fun l h=>by
  have : ∀ k (l : List Int),lims 16 l→lims 16 (modTop r m k l):=by
   intro k
   induction k with
   | zero=>intro l h;exact h
   | succ k ih=>intro l h;exact ih _ (lims_modIn hm0' hmK _ _ h)
  exact this _ l h
 have hw0K : lims 16 w0:=by rw [hw0];exact htake _ _ (hmodK _ l1)
 have hprK : ∀ a b : List Int,lims 16 (prodF m a b):=fun a b x hx=>by
  obtain ⟨y,-,rfl⟩:=List.mem_map.1 hx
  exact mod_len hm0' hmK
 obtain ⟨W,hW⟩ : ∃ W,W = modPow r m n (blen n) w0:=⟨_,rfl⟩
 repeat refine gN ?_
 refine awp_midB (fun st=>W.length ≤ r.length∧lims 16 W∧Weak st ⟨lk' [(8,ptr (.loc 8)),(11,psq fs),(12,bp m),(16,psq W)],ov [(.loc 8,.cells 28 [.sc (.bool false),.sc (.slice none 0 0)])] (pushS S)⟩) ?_ ?_
 ·--<
  refine awp_rep2 (fun (k : Nat) (w : List Int)=>⟨lk' [(8,ptr (.loc 8)),(10,psq r),(11,psq fs),(12,bp m),(13,bp n),(16,psq w),(17,ivl .i64 ((k : Int) - 1))],ov [(.loc 8,.cells 28 [.sc (.bool false),.sc (.slice none 0 0)])] (pushS S)⟩)
   (fun k w=>k ≤ blen n∧W = modPow r m n k w∧w.length ≤ r.length∧lims 16 w) (fun k _=>k) (blen n) w0 ⟨Nat.le_refl _,hW,hw0l,hw0K⟩ ?_ ?_
  ·(refine fz hS ?_ ?_;all_goals (repeat' (first | refine fJ ?_ ?_ | exact True.intro));all_goals (try (first | exact kvA | exact kOac | (refine kW (ov_of lks) rfl ?_ ?_))))
  rintro k w ⟨h1,h2,h3,h4⟩
  repeat refine gN ?_
  (refine zw ?_;refine s_cmp (fun g=>?_) (fun g=>?_))
  rotate_left
  ·have : k = 0:=by omega
   subst this
   rw [modPow] at h2
   subst h2
   repeat refine gN ?_
   refine ⟨h3,h4,?_⟩
   (refine fz hS ?_ ?_;all_goals (repeat' (first | refine fJ ?_ ?_ | exact True.intro));all_goals (try (first | exact kvA | exact kOac | (refine kW (ov_of lks) rfl ?_ ?_))))
  obtain ⟨k,rfl⟩ : ∃ j,k = j + 1:=⟨k - 1,by omega⟩
  rw [modPow] at h2
  repeat refine gN ?_
  obtain ⟨N,hN⟩ : ∃ N,N = w.length + w.length:=⟨_,rfl⟩
  (refine zw ?_;refine s_madeF (c_recprod w w r m 16 N hN hm0' (by omega) h4 h4 hrK hmK (by omega) (by omega) (by omega)) ?_)
  repeat refine gN ?_
  rw [show ((k + 1 : Nat) : Int) - 1 = (k : Int) by omega]
  (refine zw ?_;refine s_call (c_bit n k (by rw [Int.natAbs_natCast];omega) (by omega)) ?_)
  rw [Int.natAbs_natCast]
  obtain ⟨u,hu⟩ : ∃ u,u = modF r m (prodF m w w):=⟨_,rfl⟩
  have hul : u.length = N:=by rw [hu,modTop_len,prodF_len,hN]
  have huK : lims 16 u:=by rw [hu];exact hmodK _ (hprK w w)
  have husq : modSq r m w = u.take (min r.length N):=by rw [modSq,hu,hN]
  rw [husq] at h2
  rw [← hu]
  repeat refine gN ?_
  (refine zw ?_;refine s_cmp (fun g2=>?_) (fun g2=>?_))
  ·rw [if_pos (by omega)] at h2
   repeat refine gN ?_
   refine zw1 ?_
   refine s_bldA (sz:=0) (z:=[.sc (.pointer none)]) (R:=[[.ptr (.loc 118) 0]]) ttOk ?_ (hfr:=freeO_cons rfl (freeO_cons rfl (freeO_app rfl (freeO_famD rfl))))
   refine gN ?_
   obtain ⟨len,hlen⟩ : ∃ len,len = min r.length N:=⟨_,rfl⟩
   rw [← hlen]
   refine zw1 ?_
   refine s_appP ((ptrsG (.fam (.loc 113)) len).map fun c=>[c]) ttOk ?_ ?_ ?_ (hm:=lkS_hd)
   ·refine srcR_win (e:=tP) (cs:=ptrsG (.fam (.loc 113)) N) (.inl (lkS_tl (by simp) (lkS_tl (by simp) lkS_hd))) (fun c hc=>by obtain ⟨x,-,rfl⟩:=List.mem_map.1 hc;rfl) (by simp [ptrsG_len]) (by simp [ptrsG_len];omega) ?_
    rw [flat1,ptrsG_take,Nat.min_eq_left (by omega),Nat.mul_one]
   ·simp [ptrsG_len];omega
   obtain ⟨g2,hg2⟩ : ∃ g2,g2 = consG (.loc 118) (.fam (.loc 113)):=⟨_,rfl⟩
   have hg2i : ∀ i j,g2 i = g2 j→i = j:=by rw [hg2];exact consG_inj (fam_inj _) (fun i e=>by cases e)
   have hg2n : ∀ b : Nm,Nm.loc 118 ≠ b→(∀ i,Nm.fam (.loc 113) i ≠ b)→∀ i,g2 i ≠ b:=fun b h1 h2=>by rw [hg2];exact consG_ne h1 h2
   have h28 : ∀ i,g2 i ≠ .loc 8:=hg2n _ (by simp) (fun i e=>by cases e)
   have h2119 : ∀ i,g2 i ≠ .loc 119:=hg2n _ (by simp) (fun i e=>by cases e)
   have h2o : ∀ q i,Nm.out q ≠ g2 i:=fun q i e=>by rw [hg2] at e;cases i <;> cases e
   obtain ⟨v,hv⟩ : ∃ v,v = (0 : Int) :: u.take len:=⟨_,rfl⟩
   have hvl : v.length = len + 1:=by rw [hv,List.length_cons,List.length_take];omega
   have hvK : lims 16 v:=fun x hx=>by
    rw [hv] at hx
    rcases List.mem_cons.1 hx with rfl | h
    ·simp [digs_zero]
    ·exact htake _ _ huK x h
   obtain ⟨RR,hRR⟩ : ∃ RR : List (List Cell),RR = [[.ptr (.loc 118) 0]] ++ (ptrsG (.fam (.loc 113)) len).map fun c=>[c]:=⟨_,rfl⟩
   have hRRf : RR.flatten = ptrsG g2 (len + 1):=by rw [hRR,hg2,consG_ptrs,List.flatten_append,flat1];rfl
   have hRRl : RR.length = len + 1:=by rw [hRR];simp [ptrsG_len]
   have hRRn : ∀ c ∈ RR,∀ x ∈ c,∀ q,x.at q→∃ i,i < len + 1∧q = g2 i:=fun c hc x hx q hq=>by
    have hxm : x ∈ ptrsG g2 (len + 1):=by rw [← hRRf];exact List.mem_flatten.2 ⟨c,hc,hx⟩
    obtain ⟨i,hi,rfl⟩:=ptrsG_mem hxm
    exact ⟨i,hi,hq.symm⟩
   rw [← hRR]
   refine aw_weak ⟨lk' [(8,ptr (.loc 8)),(10,psq r),(11,psq fs),(12,bp m),(13,bp n),(17,iv k),(121,.c (.win (.loc 119) 0 (len + 1) (len + 1)))],ov ((.loc 8,.cells 28 [.sc (.bool false),.sc (.slice none 0 0)]) :: (.loc 119,.row tP (ptrsG g2 (len + 1))) :: famL g2 0 (v.map bo)) (pushS S)⟩ ?_ ?_
   ·have hB : ∀ i,i < len + 1→ov ((.loc 8,.cells 28 [.sc (.bool false),.sc (.slice none 0 0)]) :: (.loc 119,.row tP (ptrsG g2 (len + 1))) :: famL g2 0 (v.map bo)) (pushS S) (g2 i) ≠ none:=fun i hi=>by
     refine ovNe (o:=bo (v.getD i 0)) ?_
     simp only [lkS,if_neg (h28 i),if_neg (h2119 i)]
     rw [lkS_fam hg2i,List.getElem?_map,List.getElem?_eq_getElem (by omega),List.getD_eq_getElem?_getD,List.getElem?_eq_getElem (by omega)];rfl
    have key : ∀ (A B : Store),(∀ i,i < len + 1→B (g2 i) ≠ none)→∀ cs,RR.flatten = cs→FrzO A B (.acc tP 1 RR) (.row tP cs):=fun A B hB cs h=>h ▸ .accC (by intro e;rw [e] at hRRl;simp at hRRl) ⟨rfl,fun i c c' h1 h2=>by
     rw [h1] at h2
     cases h2
     refine ⟨rfl,fun j x y hx hy=>?_⟩
     rw [hx] at hy
     cases hy
     refine .keep fun q hq=>?_
     obtain ⟨i,hi,rfl⟩:=hRRn c (List.mem_of_getElem? h1) x (List.mem_of_getElem? hx) q hq
     exact hB i hi⟩
    refine frzO hS (fun q=>?_) ⟨.inl ⟨_,ov_of (lkS_tl (by simp) (lkS_tl (by simp) (lkS_tl (by simp) (lkS_tl (by simp) lkS_hd)))),.of_nm0 c8_nm0⟩,.inl ⟨_,ov_of lkS_hd,key _ _ hB _ hRRf⟩,fFamM fun j o hj=>?_⟩ ?_
    ·simp only [List.cons_append,List.nil_append,lkS,reduceCtorEq,if_false]
     rw [lkS_famN (h2o q),lkS_famN (fun i e=>by cases e)]
    ·rw [hv,List.map_cons] at hj
     rw [Nat.zero_add,hg2]
     cases j with
     | zero =>
      obtain rfl:=Option.some.inj hj
      exact ⟨_,ov_of (lkS_tl (by simp [consG]) (lkS_tl (by simp [consG]) lkS_hd)),kBo0⟩
     | succ j =>
      rw [List.getElem?_cons_succ,List.getElem?_map,Option.map_eq_some_iff] at hj
      obtain ⟨x,hx,rfl⟩:=hj
      have hjl:=(List.getElem?_eq_some_iff.1 hx).1
      rw [List.length_take] at hjl
      rw [List.getElem?_take_of_lt (by omega)] at hx
      refine ⟨bo x,ov_of ?_,.of_nm0 (bo_nm0 x)⟩
      simp only [consG,List.cons_append,List.nil_append,lkS,reduceCtorEq,if_false]
      rw [lkS_fam (fam_inj _),List.getElem?_map]
      show Option.map bo (u[0 + j]?) = _
      rw [Nat.zero_add,hx];rfl
    ·exact fF (kPtr (ovNe lkS_hd)) (fF kQ (fF kQ (fF (kPim rfl) (fF (kPim rfl) (fF (kN rfl) (fF (.accW (ov_of lkS_hd) (by intro e;rw [e] at hRRl;simp at hRRl) (by decide) (ov_of (lkS_tl (by simp) lkS_hd)) rfl (by omega)) trivial))))))
   have hc2:=c_modulo (.loc 119) g2 (.row tP (ptrsG g2 (len + 1))) v r m (len + 1) 16 hg2i h2119 (.inl (by rw [hvl])) hm0' (by omega) hvK hrK hmK (by omega) (by omega) (by omega)
   rw [hvl] at hc2
   have hv2l : (modF r m v).length = len + 1:=by rw [modTop_len,hvl]
   iterate 2 refine gN ?_
   refine zw1 ?_
   refine s_procM hc2 (fun p hp=>?_) ?_ ?_ (freeO_cons rfl (freeO_cons rfl (freeO_famG (fun i o=>by rw [hg2];cases i <;> rfl) _ 0)))
   ·rcases List.mem_cons.1 hp with rfl | hp
    ·exact lkS_tl (by simp) lkS_hd
    ·obtain ⟨j,hj,e⟩:=famL_mem hp
     rw [e,Nat.zero_add]
     simp only [lkS,if_neg (h28 j),if_neg (h2119 j)]
     rw [lkS_fam hg2i];exact hj
   ·rw [List.map_cons,List.nodup_cons]
    exact ⟨fun h=>by rw [famL_fst] at h;obtain ⟨i,-,e⟩:=List.mem_map.1 h;exact h2119 _ e,famL_nodup hg2i _⟩
   obtain ⟨w2,hw2⟩ : ∃ w2,w2 = (modF r m v).take (min r.length (len + 1)):=⟨_,rfl⟩
   have hup : modUp r m (u.take len) = w2:=by rw [modUp,hw2,hv,List.length_take,show min len u.length = len by omega]
   refine aw_weak ⟨lk' [(8,ptr (.loc 8)),(10,psq r),(11,psq fs),(12,bp m),(13,bp n),(17,iv k),(124,psq w2)],ov [(.loc 8,.cells 28 [.sc (.bool false),.sc (.slice none 0 0)])] (pushS S)⟩ ?_ ?_
   ·refine frzO hS (fun q=>?_) (fS (.of_nm0 c8_nm0) trivial (ov_of ?_)) ?_
    ·simp only [List.cons_append,lkS,reduceCtorEq,if_false]
     rw [lkS_app,lkS_famN (h2o q)]
     simp only [lkS,reduceCtorEq,if_false]
     exact (lkS_famN (h2o q) _ _).symm
    ·simp only [List.cons_append,lkS]
     rw [if_neg (by simp),lkS_app,lkS_famN fun i e=>h28 i e.symm]
     exact lkS_hd
    ·refine fF (kPtr (ovNe lkS_hd)) (fF kQ (fF kQ (fF (kPim rfl) (fF (kPim rfl) (fF (kN rfl) (fF ?_ trivial))))))
     rw [hw2]
     refine kGrp (g:=g2) (n:=len + 1) (.inl (ov_of lkS_hd)) (ovN rfl rfl) (by rw [hv2l];omega) (by omega) (fun i hi=>ov_of ?_) (fun i=>ovN ?_ ?_)
     ·simp only [List.cons_append,lkS,if_neg (h2119 i)]
      rw [lkS_app,lkS_fam hg2i,List.getElem?_map,List.getElem?_eq_getElem hi,List.getD_eq_getElem?_getD,List.getElem?_eq_getElem hi];rfl
     ·simp only [lkS,if_neg (h28 i)]
     ·rw [hg2];cases i <;> rfl
   rw [← hlen,hup] at h2
   repeat refine gN ?_
   refine ⟨k,w2,?_,⟨by omega,h2,by rw [hw2,List.length_take];omega,by rw [hw2];exact htake _ _ (hmodK _ hvK)⟩,by omega⟩
   (refine fz hS ?_ ?_;all_goals (repeat' (first | refine fJ ?_ ?_ | exact True.intro));all_goals (try (first | exact kvA | exact kOac | (refine kW (ov_of lks) rfl ?_ ?_))))
  ·rw [if_neg (by omega)] at h2
   repeat refine gN ?_
   refine ⟨k,u.take (min r.length N),?_,⟨by omega,h2,by rw [List.length_take];omega,htake _ _ huK⟩,by omega⟩
   refine frzO hS (fun q=>?_) (fS (.of_nm0 c8_nm0) trivial (ov_of (lkS_tl (by simp) lkS_hd))) (fF (kPtr (ovNe lkS_hd)) (fF kQ (fF kQ (fF (kPim rfl) (fF (kPim rfl) (fF ?_ (fF (kN rfl) trivial)))))))
   ·simp only [List.cons_append,List.nil_append,lkS,reduceCtorEq,if_false]
    exact (lkS_famN (fun i e=>by cases e) _ _).symm
   ·refine kGrp (g:=.fam (.loc 113)) (n:=N) (.inr (ov_of lkS_hd)) (ovN (by simp [lkS]) rfl) (by omega) (by omega) (fun i hi=>ov_of ?_) (fun i=>ovN (by simp [lkS]) rfl)
    simp only [List.cons_append,List.nil_append,lkS,reduceCtorEq,if_false]
    rw [lkS_fam (fam_inj _),List.getElem?_map,List.getElem?_eq_getElem hi,List.getD_eq_getElem?_getD,List.getElem?_eq_getElem hi];rfl
  -->
 rintro st ⟨hWl,hWK,hst⟩
 refine awp_weak _ hst ?_
 clear hst st
 have hUW : ((W.map bL).map fun ls=>[Leaf.pim ls]).length = W.length:=by simp
 have hR : modR fs bs m n (blen n) = dotP W fs W.length % m:=by
  unfold modR
  simp only [← hr,← hw0,← hW]
 have hdot : ∀ i,(digs B (dotP W fs i).natAbs).length ≤ 8192 + i:=by
  intro i
  induction i with
  | zero=>simp [dotP,digs_zero]
  | succ i ih=>exact madd_len (A:=8192 + i) (K:=4096) ih (Nat.le_trans (lims_get hWK i) (by omega : 16 ≤ 4096)) (lims_get hf i) (by omega)
 repeat refine gN ?_
 refine awp_midB (fun st=>Weak st ⟨lk' [(8,ptr (.loc 8)),(12,bp m),(18,ptr (.loc 125))],ov [(.loc 125,bo (dotP W fs W.length)),(.loc 8,.cells 28 [.sc (.bool false),.sc (.slice none 0 0)])] (pushS S)⟩) ?_ ?_
 ·refine awp_rep (fun i : Nat=>⟨lk' [(8,ptr (.loc 8)),(11,psq fs),(12,bp m),(18,ptr (.loc 125)),(126,psq W),(127,iv W.length),(128,iv i)],ov [(.loc 125,bo (dotP W fs i)),(.loc 8,.cells 28 [.sc (.bool false),.sc (.slice none 0 0)])] (pushS S)⟩)
   (fun i=>i ≤ W.length) (fun i=>W.length + 1 - i) 0 (Nat.zero_le _) ?_ ?_
  ·(refine fz hS ?_ ?_;all_goals (repeat' (first | refine fJ ?_ ?_ | exact True.intro));all_goals (try (first | exact kvA | exact kOac | (refine kW (ov_of lks) rfl ?_ ?_))))
   ·exact kBo0
  intro i hi
  repeat refine gN ?_
  (refine zw ?_;refine s_cmp (fun g=>?_) (fun g=>?_))
  ·have hiW : i < W.length:=by omega
   repeat refine gN ?_
   rw [show (i : Int).toNat = i by omega,psq_get hiW]
   repeat refine gN ?_
   rw [show (i : Int).toNat = i by omega,psq_get (by omega)]
   repeat refine gN ?_
   have hd1:=hdot i
   have ha:=lims_get hWK i
   have hb1:=lims_get hf i
   have hmul:=digs_mul_le (W.getD i 0).natAbs (fs.getD i 0).natAbs
   rw [← Int.natAbs_mul] at hmul
   (refine zw ?_;refine s_proc (c_mul (.loc 135) (.sc (.bool false)) (.sc (.slice none 0 0)) _ _ _ _ (.im (W.getD i 0)) (.im (fs.getD i 0)) (by omega) (by omega)) ?_ preX)
   (refine zw ?_;refine s_lend1 (c_add (.loc 125) _ _ (ptr (.loc 125)) (bp (W.getD i 0 * fs.getD i 0)) (dotP W fs i) (W.getD i 0 * fs.getD i 0) (.self _ rfl rfl) (.im _) (by omega) (by omega)) [.loc 135] (lvs3 (lvK (by simp) lks) (lvK (by simp) lks) (lvP List.mem_cons_self lks)) (lentX1 ⟨ptr (.loc 135),by simp,rfl⟩ lks) ⟨⟨_,List.mem_cons_self,rfl⟩,by simp⟩ ⟨rfl,fun m h=>h.symm⟩ (by first | exact safeO_big rfl | exact safeO_leaf rfl rfl) (by first | exact safeO_big rfl | exact safeO_leaf rfl rfl) ?_)
   repeat refine gN ?_
   refine ⟨i + 1,?_,by omega,by omega⟩
   (refine fz hS ?_ ?_;all_goals (repeat' (first | refine fJ ?_ ?_ | exact True.intro));all_goals (try (first | exact kvA | exact kOac | (refine kW (ov_of lks) rfl ?_ ?_))))
  ·repeat refine gN ?_
   have : i = W.length:=by omega
   subst this
   (refine fz hS ?_ ?_;all_goals (repeat' (first | refine fJ ?_ ?_ | exact True.intro));all_goals (try (first | exact kvA | exact kOac | (refine kW (ov_of lks) rfl ?_ ?_))))
 intro st hst
 refine awp_weak _ hst ?_
 clear hst st
 have hdW:=hdot W.length
 repeat refine gN ?_
 (refine zw ?_;refine s_proc (c_mod (.loc 125) _ _ _ (dotP W fs W.length) m (.self _ rfl rfl) hm0' (by omega) (by omega)) ?_ preX)
 rw [← hR]
 ((first | refine aw_fz 125 ?_ ?_ | refine awp_fz 125 ?_ ?_);rotate_left;· (repeat' (first | exact True.intro | refine And.intro ?_ ?_)) <;> first | (show _ ≤ _;simp;done) | (show _ ≤ _;simp;omega) | (show _ ≤ _;omega))
 obtain ⟨x,hx⟩ : ∃ x,x = modR fs bs m n (blen n):=⟨_,rfl⟩
 have hxl : (digs B x.natAbs).length ≤ 4096:=by
  rw [hx,hR]
  exact Nat.le_trans (mod_len hm0' hmK) (by decide)
 rw [← hx]
 repeat refine gN ?_
 (refine zw ?_;refine s_call (c_extold0 x hxl) ?_)
 repeat refine gN ?_
 (refine eF hS ?_ (fl':=[(8,.c (.pim [.sc (.bool (decide (x < 0))),.ints .u64 (U (digs B x.natAbs))])),(9,ivl .i64 0)]);(repeat' (first | refine fJ ?_ ?_ | exact True.intro);all_goals (try (first | exact kvA | exact kOac | (refine kW (ov_of lks) rfl ?_ ?_)))))
end Go.Proofs
