/-
  Contracts of functions: part Ng (no statement by itself).
-/
import Derived.Test.YtdbjhcgogmfghaaGreatDoorNb
import Derived.Test.YtdbjhcgogmfghaaGreatDoorNd
import Derived.Test.YtdbjhcgogmfghaaGreatDoorMag
set_option linter.unusedVariables false
set_option linter.unusedSimpArgs false
set_option linter.unnecessarySimpa false

/-
  recur: product.
-/
-- kv2
namespace Go.Proofs
open Go Go.Abs Go.Nums
attribute [local irreducible] thenA blockA awp aw Stp EndF EndP EndN EndG EndH EndM aOps aOpsM scopeA
set_option linter.unusedSimpArgs false
set_option linter.unusedVariables false
set_option maxHeartbeats 4000000

abbrev z0B : AObj:=.cells tBig [.sc (.bool false),.sc (.slice none 0 0)]
theorem z0B_nm0 : z0B.nm0:=by
 intro x hx m hm
 simp only [AObj.cls,List.mem_cons,List.not_mem_nil,or_false] at hx
 rcases hx with rfl | rfl <;> exact hm

theorem lims_mono {a b : Nat} {l : List Int} (h : lims a l) (hab : a ≤ b) : lims b l:=fun n hn=>Nat.le_trans (h n hn) hab
theorem madd_len {a b c : Int} {A K : Nat} (h1 : (digs B a.natAbs).length ≤ A) (h2 : (digs B b.natAbs).length ≤ K) (h3 : (digs B c.natAbs).length ≤ K) (hA : 2 * K ≤ A) : (digs B (a + b * c).natAbs).length ≤ A + 1:=by
 have e1:=digs_mul_le b.natAbs c.natAbs
 have e2:=digs_add_le a.natAbs (b.natAbs * c.natAbs)
 have e3 : (digs B (a + b * c).natAbs).length ≤ (digs B (a.natAbs + b.natAbs * c.natAbs)).length:=len_mono hB (by rw [← Int.natAbs_mul];exact Int.natAbs_add_le _ _)
 omega
theorem lims_prodIn {p q o : List Int} {K A i : Nat} (hp : lims K p) (hq : lims K q) (hA : 2 * K ≤ A) (ho : lims A o) : ∀ k,lims (A + k) (prodIn p q i k o)
 | 0=>ho
 | k + 1=>lims_set (lims_mono (lims_prodIn hp hq hA ho k) (by omega)) (madd_len (lims_get (lims_prodIn hp hq hA ho k) _) (lims_get hp i) (lims_get hq k) (by show 2 * K ≤ A + k;omega))
theorem lims_prodRow {p q o : List Int} {K A : Nat} (hp : lims K p) (hq : lims K q) (hA : 2 * K ≤ A) (ho : lims A o) : ∀ i,lims (A + i * q.length) (prodRow p q i o)
 | 0=>by rw [Nat.zero_mul];exact ho
 | i + 1=>by
  have:=lims_prodIn (i:=i) hp hq (by omega) (lims_prodRow hp hq hA ho i) q.length
  rw [Nat.succ_mul,← Nat.add_assoc]
  exact this

theorem c_recprod (p q r : List Int) (m : Int) (K N : Nat) (hN : N = p.length + q.length) (hm0 : 0 < m) (hK : K ≤ 1000) (hp : lims K p) (hq : lims K q) (hr : lims K r) (hm : (digs B m.natAbs).length ≤ K) (hlp : p.length ≤ 1000) (hlq : q.length ≤ 1000) (hlr : r.length ≤ 1000) :
  AMadeF Tryz.prog 55 [psq p,psq q,psq r,bp m] (fun n=>.c (.win n 0 (min r.length N) N)) (fun n=>.cells tP (ptrsG (.fam n) N)) ((modF r m (prodF m p q)).map bo):=by
 obtain ⟨R,hR⟩ : ∃ R,R = modF r m (prodF m p q):=⟨_,rfl⟩
 have hRl : R.length = N:=by rw [hR,modTop_len,prodF_len,hN]
 rw [← hR]
 refine amadeF (mu:=muF) (ob:=fun g=>.cells tP (ptrsG g N)) Tryz.func55 rfl (by decide) rfl (by decide) (Nat.le_of_ble_eq_true rfl) (by simp [nm0,AVal.at,AVal.at1,Cell.at]) (by intros;rfl) (by intro n m h;exact (show n = m from h).symm) ?_ ?_ ?_ fun S hS=>?_
 ·intro φ g;exact cellP_map
 ·intro g x hx m hm;rw [List.length_map,hRl];exact cellP_nm hx hm
 ·intro o ho;obtain ⟨n,-,rfl⟩:=List.mem_map.1 ho;exact bo_nm0 n
 have hU1 : ((p.map bL).map fun ls=>[Leaf.pim ls]).length = p.length:=by simp
 have hU2 : ((q.map bL).map fun ls=>[Leaf.pim ls]).length = q.length:=by simp
 have hU3 : ((r.map bL).map fun ls=>[Leaf.pim ls]).length = r.length:=by simp
 repeat refine gN ?_
 refine zw1 ?_
 refine make_cells ttOk (nb:=8) (z:=.sc (.pointer none)) (by exact rfl) (by exact rfl) (by exact rfl) (by exact rfl) (by exact rfl) (by exact rfl) (by exact fro) (by omega) (by omega) ?_
 repeat refine gN ?_
 obtain ⟨G,hG⟩ : ∃ G : Nat→Nm,G = .fam (.loc 1000):=⟨_,rfl⟩
 have hGi : ∀ i j,G i = G j→i = j:=by rw [hG];exact fam_inj _
 have hGl : ∀ i d,G i ≠ .loc d:=fun i d h=>by rw [hG] at h;cases h
 have hGo : ∀ i m,Nm.out m ≠ G i:=fun i m h=>by rw [hG] at h;cases h
 refine awp_midB (fun st=>Weak st ⟨lk' [(0,psq p),(1,psq q),(2,psq r),(3,bp m),(9,.c (.win (.loc 22) 0 N N))],ov ((.loc 22,.cells tP (ptrsG G N)) :: famL G 0 ((List.replicate N (0 : Int)).map bo)) (pushS S)⟩) ?_ ?_
 ·refine awp_rep (fun i : Nat=>⟨lk' [(0,psq p),(1,psq q),(2,psq r),(3,bp m),(9,.c (.win (.loc 22) 0 N N)),(24,iv N),(25,iv i)],ov ((.loc 22,.cells tP (ptrsG (.fam (.loc 1000)) i ++ List.replicate (N - i) (.sc (.pointer none)))) :: famL (.fam (.loc 1000)) 0 (List.replicate i z0B)) (pushS S)⟩)
   (fun i=>i ≤ N) (fun i=>N + 1 - i) 0 (Nat.zero_le _) ?_ ?_
  ·rw [hU1,hU2,← hN]
   (refine fz hS ?_ ?_;all_goals (repeat' (first | refine fJ ?_ ?_ | exact True.intro));all_goals (try (first | exact kvA | exact kOac | (refine kW (ov_of lks) rfl ?_ ?_))))
   rw [Nat.sub_zero]
   exact .keep fun x hx m hm=>by rw [(List.mem_replicate.1 (show x ∈ List.replicate N _ from hx)).2] at hm;exact hm.elim
  intro i hi
  repeat refine gN ?_
  (refine zw ?_;refine s_cmp (fun g=>?_) (fun g=>?_))
  ·repeat refine gN ?_
   refine zw1 ?_
   refine cell_store ttOk (m:=.loc 22) (off:=i) (cs:=ptrsG (.fam (.loc 1000)) i ++ List.replicate (N - i) (.sc (.pointer none))) (c:=.ptr (.loc 30) 0) (by exact rfl) (by exact rfl) (by exact rfl) (lkS_tl (by simp) lkS_hd) (by simp [ptrsG_len];omega) trivial ?_
   rw [set_ptrs (by omega)]
   repeat refine gN ?_
   refine ⟨i + 1,?_,by omega,by omega⟩
   refine mkFam (b:=22) (q:=1000) (d:=30) (i:=i) (n:=N) lkS_hd (lkS_tl (by simp) lkS_hd) z0B_nm0 (fun j hj=>?_) (by decide) (fun m=>?_) ?_
   ·simp only [lkS,reduceCtorEq,if_false]
    rw [lkS_fam (fam_inj _),List.getElem?_replicate,if_pos hj]
   ·simp only [lkS,reduceCtorEq,if_false]
    exact lkS_famN (fun i e=>by cases e) _ _
   ·exact ⟨⟨_,rfl,rK⟩,⟨_,rfl,rK⟩,⟨_,rfl,rK⟩,⟨_,rfl,rK⟩,⟨_,rfl,rW⟩,⟨_,rfl,rK⟩,⟨_,rfl,rK⟩,trivial⟩
  ·repeat refine gN ?_
   have : i = N:=by omega
   subst this
   rw [hG,Nat.sub_self,List.replicate_zero,List.append_nil]
   have hget : ∀ j,j < i→(List.map bo (List.replicate i (0 : Int)))[j]? = some (bo 0):=fun j hj=>by
    rw [List.getElem?_map,List.getElem?_replicate,if_pos hj];rfl
   refine frzO hS (fun m=>?_) ⟨.inl ⟨_,ov_of lkS_hd,.keep fun x hx q hq=>?_⟩,fFamM fun j o hj=>?_⟩ ?_
   ·simp only [lkS,reduceCtorEq,if_false]
    rw [lkS_famN (fun i e=>by cases e),lkS_famN (fun i e=>by cases e)]
   ·obtain ⟨j,hj,rfl⟩:=ptrsG_mem hx
    have e : q = .fam (.loc 1000) j:=hq.symm
    subst e
    refine ovNe (o:=bo 0) ?_
    simp only [lkS,reduceCtorEq,if_false]
    rw [lkS_fam (fam_inj _)];exact hget j hj
   ·have hji : j < i:=by have:=(List.getElem?_eq_some_iff.1 hj).1;simpa using this
    rw [hget j hji] at hj
    obtain rfl:=Option.some.inj hj
    refine ⟨z0B,ov_of ?_,kBo0⟩
    simp only [lkS,reduceCtorEq,if_false,Nat.zero_add]
    rw [lkS_fam (fam_inj _),List.getElem?_replicate,if_pos hji]
   ·exact fF kQ (fF kQ (fF kQ (fF (kPim rfl) (fF (kWin (ovNe lkS_hd) rfl rfl rfl) trivial))))
 intro st hst
 refine awp_weak _ hst ?_
 clear hst st
 obtain ⟨ob,hob⟩ : ∃ ob : AObj,ob = .cells tP (ptrsG G N):=⟨_,rfl⟩
 obtain ⟨zs,hzs⟩ : ∃ zs,zs = List.replicate N (0 : Int):=⟨_,rfl⟩
 have hzl : zs.length = N:=by rw [hzs,List.length_replicate]
 have hz0 : lims (2 * K) zs:=fun n hn=>by rw [hzs] at hn;rw [(List.mem_replicate.1 hn).2];simp [digs_zero]
 have hGz : ∀ i,G i ≠ .loc 22:=fun i=>hGl i 22
 have hobG : ∀ l : List Int,l.length = N→∀ x ∈ ob.cls,∀ q,x.at q→∃ i,i < (l.map bo).length∧q = G i:=fun l hl x hx q hq=>by
  rw [hob] at hx
  obtain ⟨j,hj,rfl⟩:=ptrsG_mem (show x ∈ ptrsG G N from hx)
  exact ⟨j,by rw [List.length_map];omega,hq.symm⟩
 have hbn : ∀ (l : List Int),∀ o ∈ l.map bo,o.nm0:=fun l o ho=>by obtain ⟨n,-,rfl⟩:=List.mem_map.1 ho;exact bo_nm0 n
 have hrow : ∀ {r : SL},lkS ((.loc 22,ob) :: r) (.loc 22) = some (.row tP (ptrsG G N)) ∨ lkS ((.loc 22,ob) :: r) (.loc 22) = some (.cells tP (ptrsG G N)):=fun {r}=>.inr (by rw [hob];exact lkS_hd)
 have hel : ∀ {L : SL} {l : List Int} {i : Nat},(∀ q ∈ L,∀ i,q.1 ≠ G i)→i < l.length→lkS (L ++ (.loc 22,ob) :: famL G 0 (l.map bo)) (G i) = some (bo (l.getD i 0)):=fun {L l i} hL hi=>by
  rw [lkS_skip fun q hq=>hL q hq i]
  simp only [lkS,if_neg (hGz i)]
  rw [lkS_fam hGi,List.getElem?_map,List.getElem?_eq_getElem hi,List.getD_eq_getElem?_getD,List.getElem?_eq_getElem hi];rfl
 have hfr : ∀ (d : Nat),Nat.beq 22 d = false→Nat.beq 1000 d = false→∀ os,freeO ((.loc 22,ob) :: famL G 0 os) d = true:=fun d h1 h2 os=>freeO_cons (by simp only [freeO,h1]) (freeO_famG (fun i o=>by rw [hG];simp only [freeO,h2]) os 0)
 have hLg : ∀ (d : Nat) (i : Nat),¬ Nm.loc d = G i:=fun d i e=>hGl i d e.symm
 rw [← hob,← hzs]
 repeat refine gN ?_
 refine awp_midB (fun st=>Weak st ⟨lk' [(2,psq r),(3,bp m),(9,.c (.win (.loc 22) 0 N N))],ov ((.loc 22,ob) :: famL G 0 ((prodRow p q p.length zs).map bo)) (pushS S)⟩) ?_ ?_
 ·refine awp_rep (fun i : Nat=>⟨lk' [(0,psq p),(1,psq q),(2,psq r),(3,bp m),(9,.c (.win (.loc 22) 0 N N)),(33,psq p),(34,iv p.length),(35,iv i)],ov ((.loc 22,ob) :: famL G 0 ((prodRow p q i zs).map bo)) (pushS S)⟩)
   (fun i=>i ≤ p.length) (fun i=>p.length + 1 - i) 0 (Nat.zero_le _) ?_ ?_
  ·rw [hU1]
   refine Weak.grp (L:=[]) hS hGi hGz (by simp) (hobG _ hzl) (hbn _) ?_
   exact (fF kQ (fF kQ (fF kQ (fF (kPim rfl) (fF (kWin (ovNe lkS_hd) rfl rfl rfl) (fF kQ (fF (kN rfl) (fF (kN rfl) trivial))))))))
  intro i hi
  obtain ⟨o,ho⟩ : ∃ o,o = prodRow p q i zs:=⟨_,rfl⟩
  have hol : o.length = N:=by rw [ho,prodRow_len,hzl]
  have hoK : lims (2 * K + i * q.length) o:=by rw [ho];exact lims_prodRow hp hq (Nat.le_refl _) hz0 i
  have hiq : i * q.length ≤ 1000 * 1000:=Nat.mul_le_mul (by omega) hlq
  rw [← ho]
  repeat refine gN ?_
  (refine zw ?_;refine s_cmp (fun g=>?_) (fun g=>?_))
  rotate_left
  ·repeat refine gN ?_
   have : i = p.length:=by omega
   subst this
   rw [ho]
   refine Weak.grp (L:=[]) hS hGi hGz (by simp) (hobG _ (by rw [prodRow_len,hzl])) (hbn _) ?_
   exact fF kQ (fF (kPim rfl) (fF (kWin (ovNe lkS_hd) rfl rfl rfl) trivial))
  have hip : i < p.length:=by omega
  repeat refine gN ?_
  rw [show (i : Int).toNat = i by omega,psq_get hip]
  repeat refine gN ?_
  rw [hU2]
  refine awp_midN (fun st=>Weak st ⟨lk' [(0,psq p),(1,psq q),(2,psq r),(3,bp m),(9,.c (.win (.loc 22) 0 N N)),(33,psq p),(34,iv p.length),(35,iv i)],ov ((.loc 22,ob) :: famL G 0 ((prodIn p q i q.length o).map bo)) (pushS S)⟩) ?_ ?_
  ·refine awp_rep (fun k : Nat=>⟨lk' [(0,psq p),(1,psq q),(2,psq r),(3,bp m),(9,.c (.win (.loc 22) 0 N N)),(33,psq p),(34,iv p.length),(35,iv i),(11,iv i),(12,bp (p.getD i 0)),(40,psq q),(41,iv q.length),(42,iv k)],ov ((.loc 22,ob) :: famL G 0 ((prodIn p q i k o).map bo)) (pushS S)⟩)
    (fun k=>k ≤ q.length) (fun k=>q.length + 1 - k) 0 (Nat.zero_le _) ?_ ?_
   ·refine Weak.grp (L:=[]) hS hGi hGz (by simp) (hobG _ hol) (hbn _) ?_
    exact fF kQ (fF kQ (fF kQ (fF (kPim rfl) (fF (kWin (ovNe lkS_hd) rfl rfl rfl) (fF kQ (fF (kN rfl) (fF (kN rfl) (fF (kN rfl) (fF (kPim rfl) (fF kQ (fF (kN rfl) (fF (kN rfl) trivial))))))))))))
   intro k hk
   obtain ⟨u,hu⟩ : ∃ u,u = prodIn p q i k o:=⟨_,rfl⟩
   have hul : u.length = N:=by rw [hu,prodIn_len,hol]
   have huK : lims (2 * K + i * q.length + k) u:=by rw [hu];exact lims_prodIn hp hq (by omega) hoK k
   rw [← hu]
   repeat refine gN ?_
   (refine zw ?_;refine s_cmp (fun g2=>?_) (fun g2=>?_))
   rotate_left
   ·repeat refine gN ?_
    have : k = q.length:=by omega
    subst this
    rw [hu]
    refine Weak.grp (L:=[]) hS hGi hGz (by simp) (hobG _ (by rw [prodIn_len,hol])) (hbn _) ?_
    exact fF kQ (fF kQ (fF kQ (fF (kPim rfl) (fF (kWin (ovNe lkS_hd) rfl rfl rfl) (fF kQ (fF (kN rfl) (fF (kN rfl) trivial)))))))
   have hkq : k < q.length:=by omega
   repeat refine gN ?_
   rw [show (k : Int).toNat = k by omega,psq_get hkq]
   repeat refine gN ?_
   obtain ⟨x,hx⟩ : ∃ x,x = p.getD i 0 * q.getD k 0:=⟨_,rfl⟩
   obtain ⟨v,hv⟩ : ∃ v,v = u.getD (i + k) 0 + x:=⟨_,rfl⟩
   have lp:=lims_get hp i
   have lq:=lims_get hq k
   have lu:=lims_get huK (i + k)
   have lx:=digs_mul_le (p.getD i 0).natAbs (q.getD k 0).natAbs
   rw [← Int.natAbs_mul,← hx] at lx
   have e2:=hel (L:=[(.loc 59,bo x),(.loc 59,z0B)]) (l:=u) (i:=i + k) (by simp [hLg]) (by omega)
   have hza : ¬ Nm.loc 22 = G (i + k):=hLg _ _
   refine awp_perm [.loc 22] [5,11] [0,1,2,3,4,5,6,7,8,9,10,11,12,13,14,15,16] (by decide +kernel) (fun n hn=>?_) ?_
   ·simp only [List.mem_singleton] at hn;subst hn;exact (show ov ((.loc 22,ob) :: famL G 0 (u.map bo)) (pushS S) (.loc 22) ≠ none from ovNe lkS_hd)
   iterate 10 refine gF ?_
   refine zm5 ?_
   refine zf1 ttOk ?_ (hrow (r:=famL G 0 (u.map bo))) (j:=i + k) (by omega)
   iterate 10 refine gF ?_
   refine zm5 ?_
   refine zf1 ttOk ?_ (hrow (r:=famL G 0 (u.map bo))) (j:=i + k) (by omega)
   refine zm4 ?_
   refine zg12 ttOk ?_ (hf:=hfr _ rfl rfl _)
   iterate 4 refine gF ?_
   refine zm4 ?_
   refine s_proc (c_mul (.loc 59) (.sc (.bool false)) (.sc (.slice none 0 0)) (bp (p.getD i 0)) (bp (q.getD k 0)) (p.getD i 0) (q.getD k 0) (.im _) (.im _) (by omega) (by omega)) ?_ (fun p hp=>by simp only [List.mem_singleton] at hp;subst hp;exact lkS_hd) (hf:=freeO_cons rfl (hfr _ rfl rfl _))
   rw [← hx]
   refine zm4 ?_
   refine s_lend1 (c_add (G (i + k)) _ _ (ptr (G (i + k))) (bp x) (u.getD (i + k) 0) x (.self _ rfl rfl) (.im x) (by omega) (by omega)) [.loc 59] (lvs3 (lvK (by simp [hGl]) e2) (lvK (by simp [hGl]) e2) (lvP List.mem_cons_self lkS_hd))
    (lentX1 ⟨ptr (.loc 59),by simp,rfl⟩ lkS_hd) ⟨⟨_,List.mem_cons_self,rfl⟩,by simp [hGl]⟩ ⟨rfl,fun m h=>h.symm⟩ (safeO_big rfl) (safeO_big rfl) ?_ (hm:=e2) (hf:=freeO_cons rfl (freeO_cons rfl (hfr _ rfl rfl _)))
   rw [← hv]
   refine zm6 ?_
   refine blockA_n (thenA_n ?_)
   have e4 : prodIn p q i (k + 1) o = u.set (i + k) v:=by rw [prodIn,← hu,hv,hx]
   refine awp_weak ⟨lk' [(0,psq p),(1,psq q),(2,psq r),(3,bp m),(9,.c (.win (.loc 22) 0 N N)),(33,psq p),(34,iv p.length),(35,iv i),(11,iv i),(12,bp (p.getD i 0)),(40,psq q),(41,iv q.length),(42,iv k)],ov ((.loc 22,ob) :: famL G 0 ((u.map bo).set (i + k) (bo v))) (pushS S)⟩ ?_ ?_
   ·refine Weak.grpPut (L:=[(.loc 59,bo x),(.loc 59,z0B)]) hS hGi hGz (by simp [hLg,Nm.isOut]) (by rw [List.length_map];omega) (hobG u hul) (hbn u) (bo_nm0 v) ?_
    exact fF kQ (fF kQ (fF kQ (fF (kPim rfl) (fF (kWin (ovNe lkS_hd) rfl rfl rfl) (fF kQ (fF (kN rfl) (fF (kN rfl) (fF (kN rfl) (fF (kPim rfl) (fF kQ (fF (kN rfl) (fF (kN rfl) trivial))))))))))))
   rw [← List.map_set,← e4]
   repeat refine gN ?_
   refine ⟨k + 1,?_,by omega,by omega⟩
   refine Weak.grp (L:=[]) hS hGi hGz (by simp) (hobG _ (by rw [prodIn_len,hol])) (hbn _) ?_
   exact fF kQ (fF kQ (fF kQ (fF (kPim rfl) (fF (kWin (ovNe lkS_hd) rfl rfl rfl) (fF kQ (fF (kN rfl) (fF (kN rfl) (fF (kN rfl) (fF (kPim rfl) (fF kQ (fF (kN rfl) (fF (kN rfl) trivial))))))))))))
  intro st hst
  refine blockA_n (thenA_n ?_)
  refine awp_weak _ hst ?_
  clear hst st
  repeat refine gN ?_
  refine ⟨i + 1,?_,by omega,by omega⟩
  rw [prodRow,← ho]
  refine Weak.grp (L:=[]) hS hGi hGz (by simp) (hobG _ (by rw [prodIn_len,hol])) (hbn _) ?_
  exact fF kQ (fF kQ (fF kQ (fF (kPim rfl) (fF (kWin (ovNe lkS_hd) rfl rfl rfl) (fF kQ (fF (kN rfl) (fF (kN rfl) trivial)))))))
 intro st hst
 refine awp_weak _ hst ?_
 clear hst st
 obtain ⟨o,ho⟩ : ∃ o,o = prodRow p q p.length zs:=⟨_,rfl⟩
 have hol : o.length = N:=by rw [ho,prodRow_len,hzl]
 have hoK : lims (2 * K + p.length * q.length) o:=by rw [ho];exact lims_prodRow hp hq (Nat.le_refl _) hz0 _
 have hpq : p.length * q.length ≤ 1000 * 1000:=Nat.mul_le_mul hlp hlq
 rw [← ho]
 repeat refine gN ?_
 refine awp_midB (fun st=>Weak st ⟨lk' [(2,psq r),(3,bp m),(9,.c (.win (.loc 22) 0 N N))],ov ((.loc 22,ob) :: famL G 0 ((o.map (· % m)).map bo)) (pushS S)⟩) ?_ ?_
 ·refine awp_rep (fun i : Nat=>⟨lk' [(2,psq r),(3,bp m),(9,.c (.win (.loc 22) 0 N N)),(66,.c (.win (.loc 22) 0 N N)),(67,iv N),(68,iv i)],ov ((.loc 22,ob) :: famL G 0 (((o.take i).map (· % m) ++ o.drop i).map bo)) (pushS S)⟩)
   (fun i=>i ≤ N) (fun i=>N + 1 - i) 0 (Nat.zero_le _) ?_ ?_
  ·refine Weak.grp (L:=[]) hS hGi hGz (by simp) (hobG _ hol) (hbn _) ?_
   exact fF kQ (fF (kPim rfl) (fF (kWin (ovNe lkS_hd) rfl rfl rfl) (fF (kWin (ovNe lkS_hd) rfl rfl rfl) (fF (kN rfl) (fF (kN rfl) trivial)))))
  intro i hi
  obtain ⟨w,hw⟩ : ∃ w,w = (o.take i).map (· % m) ++ o.drop i:=⟨_,rfl⟩
  have hwl : w.length = N:=by rw [hw];simp;omega
  rw [← hw]
  repeat refine gN ?_
  (refine zw ?_;refine s_cmp (fun g=>?_) (fun g=>?_))
  rotate_left
  ·repeat refine gN ?_
   have : i = N:=by omega
   subst this
   rw [hw,List.take_of_length_le (by omega),List.drop_eq_nil_of_le (by omega),List.append_nil]
   refine Weak.grp (L:=[]) hS hGi hGz (by simp) (hobG _ (by rw [List.length_map,hol])) (hbn _) ?_
   exact fF kQ (fF (kPim rfl) (fF (kWin (ovNe lkS_hd) rfl rfl rfl) trivial))
  have hiN : i < N:=by omega
  have hwi : w.getD i 0 = o.getD i 0:=by
   rw [hw,List.getD_eq_getElem?_getD,List.getElem?_append_right (by simp;omega),List.getElem?_drop,List.getD_eq_getElem?_getD]
   congr 2
   simp;omega
  have lo:=lims_get hoK i
  have e3:=hel (L:=[]) (l:=w) (i:=i) (by simp) (by omega)
  rw [hwi] at e3
  iterate 11 refine gN ?_
  refine zw1 ?_
  refine zf1 ttOk ?_ (hrow (r:=famL G 0 (w.map bo))) (j:=i) (by omega)
  repeat refine gF ?_
  refine zw1 ?_
  refine s_proc (c_mod (G i) _ _ (ptr (G i)) (o.getD i 0) m (.self _ rfl rfl) hm0 (by omega) (by omega)) ?_ (fun p hp=>by simp only [List.mem_singleton] at hp;subst hp;exact e3) (hf:=hfr _ rfl rfl _)
  repeat refine gF ?_
  have e4 : w.set i (o.getD i 0 % m) = (o.take (i + 1)).map (· % m) ++ o.drop (i + 1):=by
   have e5 : o.drop i = o.getD i 0 :: o.drop (i + 1):=by
    rw [List.drop_eq_getElem_cons (by omega),List.getD_eq_getElem?_getD,List.getElem?_eq_getElem (by omega)];rfl
   have e6 : o.take (i + 1) = o.take i ++ [o.getD i 0]:=by
    rw [List.take_add_one,List.getD_eq_getElem?_getD,List.getElem?_eq_getElem (by omega)];rfl
   rw [hw,List.set_append_right _ _ (by simp;omega),e5,e6,show i - ((o.take i).map (· % m)).length = 0 by simp;omega,List.set_cons_zero,List.map_append,List.append_assoc];rfl
  refine ⟨i + 1,?_,by omega,by omega⟩
  rw [← e4,List.map_set]
  refine Weak.grpPut (L:=[]) hS hGi hGz (by simp) (by rw [List.length_map];omega) (hobG w hwl) (hbn w) (bo_nm0 _) ?_
  exact fF kQ (fF (kPim rfl) (fF (kWin (ovNe lkS_hd) rfl rfl rfl) (fF (kWin (ovNe lkS_hd) rfl rfl rfl) (fF (kN rfl) (fF (kN rfl) trivial)))))
 intro st hst
 refine awp_weak _ hst ?_
 clear hst st
 obtain ⟨ps,hps⟩ : ∃ ps,ps = prodF m p q:=⟨_,rfl⟩
 have hpo : o.map (· % m) = ps:=by rw [hps,prodF,ho,hzs,hN]
 have hpl : ps.length = N:=by rw [hps,prodF_len,hN]
 have hpK : lims K ps:=fun n hn=>by
  rw [← hpo] at hn
  obtain ⟨y,-,rfl⟩:=List.mem_map.1 hn
  exact mod_len hm0 hm
 have hRp : modF r m ps = R:=by rw [hR,hps]
 have hc:=c_modulo (.loc 22) G ob ps r m N K hGi hGz (.inr (by rw [hob,hpl])) hm0 (by omega) hpK hr hm (by omega) (by omega) (by omega)
 rw [hRp,hpl] at hc
 rw [hpo]
 repeat refine gF ?_
 refine zw1 ?_
 refine s_procM hc (fun p hp=>?_) (by rw [List.map_cons,List.nodup_cons];exact ⟨fun h=>by rw [famL_fst] at h;obtain ⟨i,-,e⟩:=List.mem_map.1 h;exact hGz _ e,famL_nodup hGi _⟩) ?_ (hfr _ rfl rfl _)
 ·rcases List.mem_cons.1 hp with rfl | hp
  ·exact lkS_hd
  ·obtain ⟨j,hj,e⟩:=famL_mem hp
   rw [e,Nat.zero_add]
   simp only [lkS,if_neg (hGz j)]
   rw [lkS_fam hGi];exact hj
 repeat refine gF ?_
 have hno : ∀ m os,lkS ((.loc 22,ob) :: famL G 0 os) (.out m) = none:=fun m os=>by
  simp only [lkS,reduceCtorEq,if_false]
  exact lkS_famN (fun i=>hGo i m) _ _
 refine endH ttOk (l:=.loc 22) (g:=G) (fl':=[(8,.c (.win (.loc 22) 0 (min r.length N) N))]) (.inr rfl) hS (by exact rfl) (fun i=>⟨by rw [hG];rfl,hGz i⟩) hGi (fun m=>?_) ?_ ?_ (by exact rfl) (by exact rfl) (by exact rfl)
 ·rw [lkS_app,hno,hno]
 ·show FrzS _ (ov ((.loc 22,.cells tP (ptrsG G N)) :: famL G 0 (R.map bo)) (pushS S)) ((.loc 22,.cells tP (ptrsG G N)) :: famL G 0 (R.map bo))
  rw [← hob]
  refine frz_grp (ov_of lkS_hd) (fun x hx q hq=>?_) (fun i o ho=>⟨ov_of ?_,hbn R o (List.mem_of_getElem? ho)⟩)
  ·obtain ⟨i,hi,rfl⟩:=hobG R hRl x hx q hq
   exact ovNe (hel (L:=[]) (l:=R) (i:=i) (by simp) (by simpa using hi))
  ·simp only [List.cons_append,lkS,if_neg (hGz i)]
   rw [lkS_app,lkS_fam hGi,ho]
 ·exact fF (kWin (ovNe lkS_hd) rfl rfl rfl) trivial
end Go.Proofs
