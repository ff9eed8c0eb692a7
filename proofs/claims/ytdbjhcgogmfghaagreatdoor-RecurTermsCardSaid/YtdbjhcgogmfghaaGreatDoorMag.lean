/-
  An abstract machine for this program, and contracts of its functions: part Mag (no statement by itself).
-/
import Derived.Test.YtdbjhcgogmfghaaGreatDoorMaf
import Derived.Scope
set_option linter.unusedVariables false
set_option linter.unusedSimpArgs false
set_option linter.unnecessarySimpa false

/-
  Functions that are handed a family, and that hand one out.
-/
namespace Go.Abs
open Go

def outM (U : SL) : SL:=U.map fun p=>(.out p.1,p.2.map .out)
theorem lkS_outM : ∀ (U : SL) (q : Nm),lkS (outM U) (.out q) = (lkS U q).map (·.map .out)
  | [],q=>rfl
  | (m,o) :: U,q=>by
    have ih:=lkS_outM U q
    simp only [outM,List.map_cons,lkS,Nm.out.injEq] at ih ⊢
    rw [ih]
    split <;> rfl
theorem lkS_outM_ne : ∀ (U : SL) (q : Nm),(∀ m,q ≠ .out m)→lkS (outM U) q = none
  | [],q,_=>rfl
  | (m,o) :: U,q,h=>by
    have ih:=lkS_outM_ne U q h
    simp only [outM,List.map_cons,lkS] at ih ⊢
    rw [if_neg (h m),ih]
theorem outM_fam (g : Nat→Nm) : ∀ (os : List AObj) (s : Nat),(∀ o ∈ os,o.nm0)→outM (famL g s os) = famL (fun i=>.out (g i)) s os
  | [],_,_=>rfl
  | o :: os,s,h=>by
    have ih:=outM_fam g os (s + 1) fun o ho=>h o (by simp [ho])
    simp only [outM,famL,List.map_cons] at ih ⊢
    rw [ih,AObj.map_nm0 (h o (by simp))]

section
variable {P : Program} {mu : FuncId→Bool}
def EndM (P : Program) (fn : Func) (S : Store) (post : SL) (res : AVal) (e : Exit) (st : St) : Prop :=
  (e = .normal ∨ e = .ret)∧∃ T fl vs,TOk P T∧Weak st ⟨lk' fl,ov (outM post) (pushS S)⟩∧resL T fl fn.results.toList = some vs∧flatL vs = true∧oneR vs = res.map .out

theorem aprocM {f : FuncId} {fn : Func} {c : Code} {args : List AVal} {pre post : SL} {res : AVal} (hf : P.funcs[f]? = some fn) (hb : fn.body = some c) (hname : (fn.name == "runtime.NumGoroutine") = false)
    (hm : P.follows .mixedOrders = true) (hok : okC fn.ntmps mu c = true) (hl : args.length ≤ fn.ntmps) (hR : ∀ Φ,(∀ p ∈ pre,Φ p.1 = some p.2)→∀ p ∈ pre,Rch Φ args p.1) (hnd0 : (pre.map Prod.fst).Nodup)
    (hps : post.map Prod.fst = pre.map Prod.fst) (hpN : ∀ p ∈ post,∀ x ∈ p.2.cls,∀ m,x.at m→m ∈ pre.map Prod.fst) (hrN : ∀ q,res.at q→q ∈ pre.map Prod.fst)
    (h : ∀ S,(∀ n b,S n = some b→b.cl S)→awp P mu fn.ntmps c (EndM P fn S post res) ⟨lk' (entryL 0 (args.map (·.map .out))),ov (outM pre) (pushS S)⟩) : AProc P f args pre post res:=by
  have inpre : ∀ m,m ∈ pre.map Prod.fst→∃ p ∈ pre,p.1 = m:=fun m hm=>by obtain ⟨p,hp,e⟩:=List.mem_map.1 hm;exact ⟨p,hp,e⟩
  have hnd : (post.map Prod.fst).Nodup:=by rw [hps];exact hnd0
  refine ⟨fun Φ hΦ=>acalls hf hb hname hm hok hl fun n S hag hn hnf hcl=>?_,fun Φ hΦ q hq=>?_,fun Φ hΦ p hp=>?_,fun Φ hΦ p hp x hx m hm=>?_⟩
  rotate_left
  · obtain ⟨p,hp,rfl⟩:=inpre q (hrN q hq);exact hR Φ hΦ p hp
  · obtain ⟨p',hp',e⟩:=inpre p.1 (by rw [← hps];exact List.mem_map_of_mem hp);rw [← e];exact hR Φ hΦ p' hp'
  · obtain ⟨p',hp',e⟩:=inpre m (hpN p hp x hx m hm);rw [← e];exact hR Φ hΦ p' hp'
  have hS : ∀ p ∈ pre,S p.1 = some p.2:=fun p hp=>by rw [hag p.1 (hR Φ hΦ p hp)];exact hΦ p hp
  have e0 : ov (outM pre) (pushS S) = ov [] (pushS S):=by
    rw [show ov [] (pushS S) = pushS S from rfl]
    refine ov_self fun m o hm=>?_
    have : ∃ q,m = .out q:=by
      cases m with
      | out q=>exact ⟨q,rfl⟩
      | _=>rw [lkS_outM_ne _ _ (fun m e=>by cases e)] at hm;cases hm
    obtain ⟨q,rfl⟩:=this
    rw [lkS_outM] at hm
    cases e : lkS pre q with
    | none=>rw [e] at hm;cases hm
    | some o' =>
      rw [e] at hm
      obtain rfl:=Option.some.inj hm
      have:=hS _ (lkS_mem e)
      simp only at this
      simp only [pushS,this,Option.map_some]
  refine awp_weak _ (entry_weak args S) ?_
  have hh:=h S hcl
  rw [e0] at hh
  refine awp_post (awp_mono hh ?_)
  have hne:=old_ne hn hnf
  have hpreD : ∀ m ∈ pre.map Prod.fst,S m ≠ none:=fun m hm=>by
    obtain ⟨p,hp,rfl⟩:=inpre m hm
    rw [hS p hp];simp
  have hpostS : ∀ q o,lkS post q = some o→S q ≠ none:=fun q o ho=>hpreD q (by rw [← hps];exact List.mem_map_of_mem (lkS_mem ho))
  rintro e st ⟨he,T,fl,vs,hT,h1,h2,h3,h4⟩
  refine ⟨_,h1,he,vs,fun _=>.new,resL_spec hT h2,flatL_spec h3,fun _=>rfl,?_,?_,?_⟩
  · have hdom : ∀ m,updL S post m ≠ none→S m ≠ none:=fun m hm=>by
      rw [updL_lk _ _ _ hnd] at hm
      cases e : lkS post m with
      | none=>rw [e] at hm;exact hm
      | some o=>exact hpostS m o e
    refine ⟨fun m m' q1 q2 e=>?_,fun m o hm=>?_,fun m o hm=>?_⟩
    · rw [if_neg (hne m (hdom m q1)),if_neg (hne m' (hdom m' q2))] at e;injection e
    · have hm0:=hdom m (by rw [hm];simp)
      rw [if_neg (hne m hm0)]
      rw [updL_lk _ _ _ hnd] at hm
      simp only [ov,lkS_outM]
      cases e : lkS post m with
      | none =>
        rw [e] at hm
        simp only [Option.map_none] at hm ⊢
        rw [map_old hne (hcl m o hm)]
        simp [pushS,hm]
      | some o' =>
        rw [e] at hm
        obtain rfl:=Option.some.inj hm
        simp only [Option.map_some,Option.some.injEq]
        refine (AObj.map_congr fun x hx q hq=>?_).symm
        exact if_neg (hne q (hpreD q (hpN _ (lkS_mem e) x hx q hq)))
    · rw [updL_lk _ _ _ hnd] at hm
      have mono : ∀ q,S q ≠ none→updL S post q ≠ none:=fun q hq=>updL_dom _ _ _ hq
      cases e : lkS post m with
      | none =>
        rw [e] at hm
        exact cl_mono mono (hcl m o hm)
      | some o' =>
        rw [e] at hm
        obtain rfl:=Option.some.inj hm
        exact AObj.cl_cls.2 fun x hx q hq=>mono q (hpreD q (hpN _ (lkS_mem e) x hx q hq))
  · exact fun q hq=>updL_dom _ _ _ (hpreD q (hrN q hq))
  · rw [h4]
    exact AVal.map_congr fun q hq=>by rw [if_neg (hne q (hpreD q (hrN q hq)))]

variable {T : TT} {ops : Array Oper} {fl : FL} {sl : SL} {S : Store} {K : St→Prop} {d : Nat} {ty : TypeId} {pos : String} {after : Array Edge}

theorem endM (hT : TOk P T) {fn : Func} {post sl' : SL} {res : AVal} {e : Exit} {fl' : FL} {vs : List AVal} (he : e = .normal ∨ e = .ret) (hS : ∀ n b,S n = some b→b.cl S) (hp : sl' = outM post) (ho : outsL sl' = outsL sl)
    (hs : FrzS (ov sl (pushS S)) (ov sl' (pushS S)) sl') (hf : FrzF (ov sl (pushS S)) (ov sl' (pushS S)) fl fl')
    (hr : resL T fl' fn.results.toList = some vs) (hfl : flatL vs = true) (h1 : oneR vs = res.map .out) : EndM P fn S post res e ⟨lk' fl,ov sl (pushS S)⟩ :=
  ⟨he,T,fl',vs,hT,by rw [← hp];exact frz hS ho hs hf,hr,hfl,h1⟩

theorem updL_ovN {S : Store} {sl U : SL} (h : (U.map Prod.fst).Nodup) : updL (ov sl S) U = ov (U ++ sl) S:=by
  funext m
  rw [updL_lk _ _ _ h]
  simp only [ov,lkS_app]
  cases lkS U m <;> rfl

theorem s_procM {f : FuncId} {as : Array Operand} {tys : Array TypeId} {xs args : List AVal} {pre post : SL} {res : AVal} (hc : AProc P f args pre post res) (hpre : ∀ p ∈ pre,lkS sl p.1 = some p.2) (hnd : (post.map Prod.fst).Nodup)
    (k : K ⟨lk' ((d,res) :: fl),ov (post ++ sl) (pushS S)⟩) (hf : freeO sl d = true) (hmu : mu f = true:=by exact rfl) (hx : opsO fl as.toList = some xs:=by exact rfl)
    (hle : ALes xs args:=by repeat (first | exact trivial | refine ⟨ALe.refl _,?_⟩ | refine ⟨.inr (.inl ⟨_,rfl,rfl⟩),?_⟩)) :
    Stp P mu ops ⟨some d,.call ⟨.value (.func f),as,tys⟩,ty,pos,after,none⟩ ⟨lk' fl,ov sl (pushS S)⟩ K:=by
  have hΦ : ∀ p ∈ pre,ov sl (pushS S) p.1 = some p.2:=fun p hp=>ov_of (hpre p hp)
  refine stp_call (hc.calls (ov sl (pushS S)) hΦ) rfl hx (by simpa using hle) hf (fun _ _=>rfl) (hc.side hΦ hmu) ?_
  rw [← updL_ov,updL_ovN hnd];exact k

structure AMadeF (P : Program) (f : FuncId) (args : List AVal) (res : Nm→AVal) (ob : Nm→AObj) (os : List AObj) : Prop where
  calls : ∀ Φ,ACalls P f args Φ res (fun n=>(n,ob n) :: famL (.fam n) 0 os)
  args0 : ∀ x ∈ args,nm0 x
  resN : ∀ n m,(res n).at m→m = n
  obN : ∀ n,∀ x ∈ (ob n).cls,∀ m,x.at m→∃ i,i < os.length∧m = .fam n i
  os0 : ∀ o ∈ os,o.nm0

theorem fam_ne (n : Nm) (i : Nat) : Nm.fam n i ≠ n:=by
  intro h
  have : ∀ n : Nm,SizeOf.sizeOf n < SizeOf.sizeOf (Nm.fam n i):=fun n=>by simp;omega
  have:=this n
  rw [h] at this
  exact Nat.lt_irrefl _ this

def EndH (P : Program) (fn : Func) (S : Store) (res : Nm→AVal) (ob : (Nat→Nm)→AObj) (os : List AObj) (e : Exit) (st : St) : Prop :=
  (e = .normal ∨ e = .ret)∧∃ T fl l g vs,TOk P T∧l.isOut = false∧(∀ i : Nat,Nm.isOut (g i) = false∧g i ≠ l)∧(∀ i j,g i = g j→i = j)∧Weak st ⟨lk' fl,ov ((l,ob g) :: famL g 0 os) (pushS S)⟩∧resL T fl fn.results.toList = some vs∧flatL vs = true∧oneR vs = res l

theorem amadeF {f : FuncId} {fn : Func} {c : Code} {args : List AVal} {res : Nm→AVal} {ob : (Nat→Nm)→AObj} {os : List AObj} (hf : P.funcs[f]? = some fn) (hb : fn.body = some c) (hname : (fn.name == "runtime.NumGoroutine") = false)
    (hm : P.follows .mixedOrders = true) (hok : okC fn.ntmps mu c = true) (hl : args.length ≤ fn.ntmps) (ha : ∀ x ∈ args,nm0 x) (resM : ∀ (φ : Nm→Nm) n,(res n).map φ = res (φ n)) (resN : ∀ n m,(res n).at m→m = n)
    (obM : ∀ (φ : Nm→Nm) (g : Nat→Nm),(ob g).map φ = ob (fun i=>φ (g i))) (obN : ∀ g,∀ x ∈ (ob g).cls,∀ m,x.at m→∃ i,i < os.length∧m = g i) (os0 : ∀ o ∈ os,o.nm0)
    (h : ∀ S,(∀ n b,S n = some b→b.cl S)→awp P mu fn.ntmps c (EndH P fn S res ob os) ⟨lk' (entryL 0 args),ov [] (pushS S)⟩) : AMadeF P f args res (fun n=>ob (.fam n)) os:=by
  refine ⟨fun Φ=>acalls hf hb hname hm hok hl fun n S _ hn hnf hcl=>?_,ha,resN,fun n x hx m hm=>obN (.fam n) x hx m hm,os0⟩
  refine awp_weak _ (entry_weak args S) ?_
  have e1 : args.map (·.map .out) = args:=by
    conv=>rhs;rw [← List.map_id args]
    exact List.map_congr_left fun x hx=>AVal.map_nm0 (ha x hx)
  rw [e1]
  refine awp_post (awp_mono (h S hcl) ?_)
  rintro e st ⟨he,T,fl,l,g,vs,hT,hlo,hgo,hgi,h1,h2,h3,h4⟩
  have hne:=old_ne hn hnf
  have hfi : ∀ i j,Nm.fam n i = Nm.fam n j→i = j:=fun i j h=>by injection h
  obtain ⟨G,hG⟩ : ∃ G : Nm→Nm,G = fun m=>match m with | .fam p i=>if p = n then g i else l | _=>l:=⟨_,rfl⟩
  have Gn : G n = l:=by
    rw [hG]
    cases n with
    | fam p i =>
      simp only
      split
      · rename_i e;exact absurd e.symm (fam_ne p i)
      · rfl
    | _=>rfl
  have Gf : ∀ i,G (.fam n i) = g i:=fun i=>by rw [hG];simp
  have Go : ∀ m,Nm.isOut (G m) = false:=fun m=>by
    rw [hG]
    cases m with
    | fam p i =>
      simp only
      split
      · exact (hgo i).1
      · exact hlo
    | _=>exact hlo
  have isF : ∀ i,(Nm.fam n i).isNew n = true:=fun i=>by simp [Nm.isNew]
  have hU : ∀ m,updL S ((n,ob (.fam n)) :: famL (.fam n) 0 os) m = if m = n then some (ob (.fam n)) else match lkS (famL (.fam n) 0 os) m with | some o=>some o | none=>S m:=by
    intro m
    rw [updL_lk _ _ _ (by
      rw [List.map_cons,List.nodup_cons]
      refine ⟨fun hm=>?_,famL_nodup hfi os⟩
      rw [famL_fst] at hm
      obtain ⟨i,-,e⟩:=List.mem_map.1 hm
      exact fam_ne n _ e)]
    simp only [lkS]
    split
    · rename_i o e;split at e
      · rename_i q;rw [if_pos q,e]
      · rename_i q;rw [if_neg q,e]
    · rename_i e;split at e
      · cases e
      · rename_i q;rw [if_neg q,e]
  have hfam : ∀ i,lkS (famL (.fam n) 0 os) (.fam n i) = os[i]?:=lkS_fam hfi os
  have hnfam : ∀ m,m.isNew n = false→lkS (famL (.fam n) 0 os) m = none:=fun m hm=>lkS_famN (fun i e=>by rw [e,isF] at hm;cases hm) os 0
  have dom : ∀ m,updL S ((n,ob (.fam n)) :: famL (.fam n) 0 os) m ≠ none→m = n ∨ (∃ i,i < os.length∧m = .fam n i) ∨ (m.isNew n = false∧S m ≠ none):=by
    intro m hm
    rw [hU] at hm
    cases q : m.isNew n with
    | true =>
      rcases Nm.isNew_t q with rfl | ⟨i,rfl⟩
      · exact .inl rfl
      · rw [if_neg (fam_ne n i),hfam] at hm
        cases e : os[i]? with
        | none=>rw [e] at hm;exact absurd (hnf i) hm
        | some o=>exact .inr (.inl ⟨i,(List.getElem?_eq_some_iff.1 e).1,rfl⟩)
    | false =>
      rw [if_neg (Nm.isNew_ne q),hnfam m q] at hm
      exact .inr (.inr ⟨rfl,hm⟩)
  have φn : (if n.isNew n = true then G n else Nm.out n) = l:=by rw [if_pos (Nm.isNew_self n),Gn]
  have φf : ∀ i,(if (Nm.fam n i).isNew n = true then G (.fam n i) else Nm.out (.fam n i)) = g i:=fun i=>by rw [if_pos (isF i),Gf]
  have φo : ∀ m,m.isNew n = false→(if m.isNew n = true then G m else Nm.out m) = .out m:=fun m h=>by rw [if_neg (by rw [h];simp)]
  refine ⟨_,h1,he,_,G,resL_spec hT h2,flatL_spec h3,Go,⟨fun m m' q1 q2 e=>?_,fun m o hm=>?_,fun m o hm=>?_⟩,fun m hm=>?_,?_⟩
  · rcases dom m q1 with rfl | ⟨i,-,rfl⟩ | ⟨a,-⟩
    · rcases dom m' q2 with rfl | ⟨j,-,rfl⟩ | ⟨b,-⟩
      · rfl
      · rw [φn,φf] at e;exact absurd e.symm (hgo j).2
      · rw [φn,φo m' b] at e;rw [e] at hlo;cases hlo
    · rcases dom m' q2 with rfl | ⟨j,-,rfl⟩ | ⟨b,-⟩
      · rw [φn,φf] at e;exact absurd e (hgo i).2
      · rw [φf,φf] at e;rw [hgi _ _ e]
      · rw [φf,φo m' b] at e;have:=(hgo i).1;rw [e] at this;cases this
    · rcases dom m' q2 with rfl | ⟨j,-,rfl⟩ | ⟨b,-⟩
      · rw [φn,φo m a] at e;rw [← e] at hlo;cases hlo
      · rw [φf,φo m a] at e;have:=(hgo j).1;rw [← e] at this;cases this
      · rw [φo m a,φo m' b] at e;injection e
  · have hm0:=dom m (by rw [hm];simp)
    rw [hU] at hm
    rcases hm0 with rfl | ⟨i,hi,rfl⟩ | ⟨a,-⟩
    · rw [if_pos rfl] at hm
      obtain rfl:=Option.some.inj hm
      rw [φn,obM,show (fun i=>if (Nm.fam m i).isNew m = true then G (.fam m i) else Nm.out (.fam m i)) = g from funext φf]
      simp [ov,lkS]
    · rw [if_neg (fam_ne n i),hfam,List.getElem?_eq_getElem hi] at hm
      obtain rfl:=Option.some.inj hm
      rw [φf,AObj.map_nm0 (os0 _ (List.getElem_mem hi))]
      simp only [ov,lkS,if_neg (hgo i).2,lkS_fam hgi,List.getElem?_eq_getElem hi]
    · rw [if_neg (Nm.isNew_ne a),hnfam m a] at hm
      simp only at hm
      rw [φo m a,map_old hne (hcl m o hm)]
      have h6 : ¬ Nm.out m = l:=fun q=>by subst q;cases hlo
      have h7 : lkS (famL g 0 os) (.out m) = none:=lkS_famN (fun i e=>by have:=(hgo i).1;rw [← e] at this;cases this) os 0
      show ov _ (pushS S) _ = _
      simp only [ov,lkS,if_neg h6,h7,pushS,hm]
      rfl
  · have hm0:=dom m (by rw [hm];simp)
    rw [hU] at hm
    have memn : ∀ q,(∃ i,i < os.length∧q = .fam n i)→updL S ((n,ob (.fam n)) :: famL (.fam n) 0 os) q ≠ none:=by
      rintro q ⟨i,hi,rfl⟩
      rw [hU,if_neg (fam_ne n i),hfam,List.getElem?_eq_getElem hi];simp
    rcases hm0 with rfl | ⟨i,hi,rfl⟩ | ⟨a,-⟩
    · rw [if_pos rfl] at hm
      obtain rfl:=Option.some.inj hm
      exact AObj.cl_cls.2 fun x hx q hq=>memn q (obN _ x hx q hq)
    · rw [if_neg (fam_ne n i),hfam,List.getElem?_eq_getElem hi] at hm
      obtain rfl:=Option.some.inj hm
      exact AObj.cl_nm0 (os0 _ (List.getElem_mem hi))
    · rw [if_neg (Nm.isNew_ne a),hnfam m a] at hm
      exact cl_mono (fun q hq=>updL_dom _ _ _ hq) (hcl m o hm)
  · have:=resN n m hm
    subst this
    rw [hU,if_pos rfl];simp
  · rw [h4,resM,φn]

theorem endH (hT : TOk P T) {fn : Func} {res : Nm→AVal} {ob : (Nat→Nm)→AObj} {os : List AObj} {e : Exit} {fl' : FL} {l : Nm} {g : Nat→Nm} {vs : List AVal} (he : e = .normal ∨ e = .ret) (hS : ∀ n b,S n = some b→b.cl S) (hl : l.isOut = false)
    (hg : ∀ i : Nat,Nm.isOut (g i) = false∧g i ≠ l) (hgi : ∀ i j,g i = g j→i = j) (ho : ∀ m,lkS sl (.out m) = none)
    (hs : FrzS (ov sl (pushS S)) (ov ((l,ob g) :: famL g 0 os) (pushS S)) ((l,ob g) :: famL g 0 os)) (hf : FrzF (ov sl (pushS S)) (ov ((l,ob g) :: famL g 0 os) (pushS S)) fl fl')
    (hr : resL T fl' fn.results.toList = some vs) (hfl : flatL vs = true) (h1 : oneR vs = res l) : EndH P fn S res ob os e ⟨lk' fl,ov sl (pushS S)⟩ :=
  ⟨he,T,fl',l,g,vs,hT,hl,hg,hgi,frzO hS (fun m=>by
    rw [ho m]
    simp only [lkS]
    rw [if_neg (fun q=>by rw [← q] at hl;cases hl)]
    exact lkS_famN (fun i e=>by have:=(hg i).1;rw [← e] at this;cases this) os 0) hs hf,hr,hfl,h1⟩

theorem s_madeF {f : FuncId} {as : Array Operand} {tys : Array TypeId} {xs args : List AVal} {res : Nm→AVal} {ob : Nm→AObj} {os : List AObj} (hc : AMadeF P f args res ob os)
    (k : K ⟨lk' ((d,res (.loc d)) :: fl),ov ((.loc d,ob (.loc d)) :: (sl ++ famL (.fam (.loc d)) 0 os)) (pushS S)⟩) (hmu : mu f = true:=by exact rfl) (hx : opsO fl as.toList = some xs:=by exact rfl)
    (hle : ALes xs args:=by repeat (first | exact trivial | refine ⟨ALe.refl _,?_⟩ | refine ⟨.inr (.inl ⟨_,rfl,rfl⟩),?_⟩)) (hf : freeO sl d = true:=by exact fro) :
    Stp P mu ops ⟨some d,.call ⟨.value (.func f),as,tys⟩,ty,pos,after,none⟩ ⟨lk' fl,ov sl (pushS S)⟩ K:=by
  have hfi : ∀ i j,Nm.fam (.loc d) i = Nm.fam (.loc d) j→i = j:=fun i j h=>by injection h
  refine stp_call (hc.calls (ov sl (pushS S))) rfl hx (by simpa using hle) hf (fun _ _=>rfl)
    ⟨fun p hp=>?_,.inr (.inl hmu),fun m hm=>.inl ⟨ob (.loc d),by rw [hc.resN _ _ hm];simp⟩,fun p hp x hx m hm=>.inl ?_⟩ ?_
  · rcases List.mem_cons.1 hp with rfl | hp
    · exact .inl rfl
    · obtain ⟨j,-,e⟩:=famL_mem hp
      exact .inr (.inl ⟨_,e⟩)
  · rcases List.mem_cons.1 hp with rfl | hp
    · obtain ⟨i,hi,rfl⟩:=hc.obN _ x hx m hm
      have:=famL_in (g:=.fam (.loc d)) (s:=0) (List.getElem?_eq_getElem hi)
      rw [Nat.zero_add] at this
      exact ⟨_,List.mem_cons_of_mem _ this⟩
    · obtain ⟨j,hj,-⟩:=famL_mem hp
      exact absurd hm (hc.os0 _ (List.mem_of_getElem? hj) x hx m)
  · rw [← updL_ov,updL_ovN (by
      rw [List.map_cons,List.nodup_cons]
      refine ⟨fun hm=>?_,famL_nodup hfi os⟩
      rw [famL_fst] at hm
      obtain ⟨i,-,e⟩:=List.mem_map.1 hm
      exact fam_ne _ _ e)]
    rw [show ov (((Nm.loc d,ob (.loc d)) :: famL (.fam (.loc d)) 0 os) ++ sl) (pushS S) = ov ((.loc d,ob (.loc d)) :: (sl ++ famL (.fam (.loc d)) 0 os)) (pushS S) from ov_congr fun m=>?_]
    · exact k
    · simp only [List.cons_append,lkS,lkS_app]
      split
      · rfl
      · by_cases q : ∃ i,m = Nm.fam (.loc d) i
        · obtain ⟨i,rfl⟩:=q
          have : lkS sl (.fam (.loc d) i) = none:=by
            have:=freeO_fam (S:=fun _=>none) i hf
            simp only [ov] at this
            cases e : lkS sl (.fam (.loc d) i) with
            | none=>rfl
            | some o=>rw [e] at this;cases this
          rw [this]
          simp only
          cases lkS (famL (Nm.fam (.loc d)) 0 os) (.fam (.loc d) i) <;> rfl
        · have : lkS (famL (Nm.fam (.loc d)) 0 os) m = none:=lkS_famN (fun i e=>q ⟨i,e⟩) os 0
          rw [this]
          simp only
          cases lkS sl m <;> rfl

/-! ### Loads, and the list as it stands -/
theorem zf1 (hT : TOk P T) {t : TypeId} {x : Operand} {m : Nm} {j n : Nat} {ty' : TypeId} {g : Nat→Nm} (k : K ⟨lk' ((d,.c (.ptr (g j) 0)) :: fl),ov sl S⟩) (hm : lkS sl m = some (.row ty' (ptrsG g n)) ∨ lkS sl m = some (.cells ty' (ptrsG g n))) (hj : j < n)
    (hx : opO fl x = some (.c (.ptr m j)):=by exact rfl) (ha : agT T t = some false:=by exact rfl) : Stp P mu ops ⟨some d,.load t x,ty,pos,after,none⟩ ⟨lk' fl,ov sl S⟩ K:=by
  refine ⟨_,⟨.c (.ptr (g j) 0),ov sl S,⟨?_,rfl⟩,rfl⟩,by rw [putF_lk];exact k⟩
  rw [opO_look hx]
  rcases hm with hm | hm
  · exact ⟨_,ov_of hm,.inr ⟨hT.ag ha,_,ptrsG_get hj,rfl⟩⟩
  · exact ⟨_,ov_of hm,.inr ⟨hT.ag ha,_,ptrsG_get hj,rfl⟩⟩
theorem zf2 (hT : TOk P T) {t : TypeId} {x : Operand} {m : Nm} {j n : Nat} {ty' : TypeId} {g : Nat→Nm} (k : K ⟨lk' ((d,.c (.ptr (g j) 0)) :: fl),ov sl S⟩) (hm : lkS sl m = some (.acc ty' 1 ((ptrsG g n).map fun c=>[c]))) (hj : j < n)
    (hx : opO fl x = some (.accp m j):=by exact rfl) (ha : agT T t = some false:=by exact rfl) : Stp P mu ops ⟨some d,.load t x,ty,pos,after,none⟩ ⟨lk' fl,ov sl S⟩ K :=
  za2 hT (i:=j) (j:=0) (sz:=1) k ⟨_,by rw [List.getElem?_map,ptrsG_get hj];rfl,rfl⟩ (by omega) hx ha hm

end
section
variable {A B : Store}
theorem leaves_frz {ls : List Leaf} {g : Nm} {ty : TypeId} (hm : A g = some (.cells ty (ls.map Leaf.cell))) (hb : B g = none) : FrzC0 A B (.ptr g 0) (.pim ls):=by
  refine .ptr (fun j=>((ls[j]?).map Leaf.cell).getD .junk) (.inl hm) hb (fun j l hj=>by simp [hj]) fun j l hj=>?_
  simp only [hj,Option.map_some,Option.getD_some]
  exact .keep fun q hq=>absurd hq (l.cell_nm q)
theorem kSeqP {m : Nm} {len cm : Nat} {ty ty' : TypeId} {g : Nat→Nm} {n : Nat} {rs : List (List Leaf)} (hm : A m = some (.row ty (ptrsG g n)) ∨ A m = some (.cells ty (ptrsG g n))) (hb : B m = none) (hl : rs.length = len) (hn : len ≤ n)
    (h : ∀ i ls,rs[i]? = some ls→A (g i) = some (.cells ty' (ls.map Leaf.cell))∧B (g i) = none) : FrzV A B (.c (.win m 0 len cm)) (.c (.seq 1 (rs.map fun ls=>[.pim ls]))):=by
  refine .c (.base (.row (fun i _=>.ptr (g i) 0) (ty:=ty) (cs:=ptrsG g n) (hm.elim .inr .inl) hb (by simpa using hl) (fun c hc=>by obtain ⟨ls,-,rfl⟩:=List.mem_map.1 hc;rfl) (fun i c j l hi hj=>?_) fun i c j l hi hj=>?_))
  · rw [List.getElem?_map,Option.map_eq_some_iff] at hi
    obtain ⟨ls,h1,rfl⟩:=hi
    have hlt:=(List.getElem?_eq_some_iff.1 h1).1
    match j,hj with
    | 0,_=>rw [show 0 + (i * 1 + 0) = i by omega];exact ptrsG_get (by omega)
  · rw [List.getElem?_map,Option.map_eq_some_iff] at hi
    obtain ⟨ls,h1,rfl⟩:=hi
    match j,hj with
    | 0,hj =>
      simp only [List.getElem?_cons_zero,Option.some.injEq] at hj
      subst hj
      exact leaves_frz (h i ls h1).1 (h i ls h1).2
theorem kAccP {m : Nm} {len : Nat} {ty ty' : TypeId} {g : Nat→Nm} {n : Nat} {rs : List (List Leaf)} (hm : A m = some (.acc ty 1 ((ptrsG g n).map fun c=>[c]))) (hb : B m = none) (hl : rs.length = n)
    (h : ∀ i ls,rs[i]? = some ls→A (g i) = some (.cells ty' (ls.map Leaf.cell))∧B (g i) = none) : FrzV A B (.accv m len) (.c (.seq 1 (rs.map fun ls=>[.pim ls]))):=by
  refine .acc hm hb ⟨by simp [ptrsG_len,hl],fun i c c' hi hi'=>?_⟩
  simp only [List.getElem?_map,Option.map_eq_some_iff] at hi hi'
  obtain ⟨c0,h1,rfl⟩:=hi
  obtain ⟨c1,⟨ls,h2,rfl⟩,rfl⟩:=hi'
  refine ⟨rfl,fun j x y hx hy=>?_⟩
  have hlt:=(List.getElem?_eq_some_iff.1 h2).1
  match j,hx,hy with
  | 0,hx,hy =>
    simp only [List.getElem?_cons_zero,List.map_cons,Option.some.injEq] at hx hy
    subst hx hy
    rw [ptrsG_get (by omega)] at h1
    obtain rfl:=Option.some.inj h1
    exact leaves_frz (h i ls h2).1 (h i ls h2).2
end
end Go.Abs

/-
  More steps of words.
-/
namespace Go.Abs
open Go
theorem kQ {A B : Store} {sz : Nat} {L : List (List Leaf)} : FrzV A B (.c (.seq sz L)) (.c (.seq sz L)):=.c (.base (.keep (fun _ h=>h.elim)))
theorem kFn0 {A B : Store} {f : FuncId} : FrzV A B (.fn f []) (.fn f []):=kFn (fun x hx=>by cases hx)
section
variable {P : Program} {T : TT} {mu : FuncId→Bool} {N : Nat} {ops : Array Oper} {fl : FL} {S' : Store} {K : St→Prop}
  {d : Nat} {ty : TypeId} {pos : String} {after : Array Edge} {x y : Operand} {t0 t1 : TypeId} {a b : Int} {k' : IntKind}
theorem stp_andN (m n : Nat) (hx : opO fl x = some (ivl .u64 a)) (hy : opO fl y = some (ivl .u64 b)) (ha : a = m) (hb : b = n) (hm : m < 18446744073709551616) (hn : n < 18446744073709551616) (kk : K ⟨lk' ((d,ivl .u64 ((m &&& n : Nat) : Int)) :: fl),S'⟩) :
    Stp P mu ops ⟨some d,.binOp .and t0 x y t1,ty,pos,after,none⟩ ⟨lk' fl,S'⟩ K:=by
  subst ha;subst hb
  refine stp_of hx hy ?_ kk
  simp only [binE,isShift]
  refine ⟨trivial,?_⟩
  rw [show intE .and .u64 (m : Int) n _ = (_ = ivl .u64 (IntKind.u64.wrap (BitVec.ofInt IntKind.u64.bits (m : Int) &&& BitVec.ofInt IntKind.u64.bits n).toNat)) from rfl]
  rw [wrap_u64,BitVec.toNat_and,bv_nat,bv_nat,Nat.mod_eq_of_lt hm,Nat.mod_eq_of_lt hn,Nat.mod_eq_of_lt (show m &&& n < 2 ^ 64 from Nat.and_lt_two_pow _ hn)]
end
section
variable {P : Program} {T : TT} {mu : FuncId→Bool} {N : Nat} {ops : Array Oper} {fl : FL} {sl : SL} {S : Store} {K : St→Prop}
  {d : Nat} {ty : TypeId} {pos : String} {after : Array Edge}
theorem s_callG {g : Operand} {f : FuncId} {caps : List Cell} {as : Array Operand} {tys : Array TypeId} {xs args : List AVal} {res : AVal} (hc : AFun P f args res) (k : K ⟨lk' ((d,res) :: fl),ov sl (pushS S)⟩) (hg : opO fl g = some (.fn f caps):=by exact rfl)
    (hx : opsO fl as.toList = some xs:=by exact rfl) (hle : ALes (xs ++ caps.map .c) args:=by repeat (first | exact trivial | refine ⟨ALe.refl _,?_⟩ | refine ⟨.inr (.inl ⟨_,rfl,rfl⟩),?_⟩)) (hf : freeO sl d = true:=by exact fro) :
    Stp P mu ops ⟨some d,.call ⟨.value g,as,tys⟩,ty,pos,after,none⟩ ⟨lk' fl,ov sl (pushS S)⟩ K :=
  stp_call (hc.calls (ov sl (pushS S))) hg hx hle hf (fun _ _=>rfl) ⟨by simp,.inl rfl,fun m hm=>absurd hm (hc.res0 m),by simp⟩ k
end
end Go.Abs

/-
  Families renamed; functions that read families and hand out one.
-/
namespace Go.Abs
open Go

/-! ### Renamed -/
def RenV (sl : SL) (m0 m1 : Nm) (g1 : Nat→Nm) (u v : AVal) : Prop :=
  (∃ off len c,v = .c (.win m1 off len c)∧u = .c (.win m0 off len c)) ∨ (∃ k,v = .accv m1 k∧u = .accv m0 k) ∨
  (u = v∧∀ r,v.at r→lkS sl r ≠ none∧r ≠ m1∧∀ i,r ≠ g1 i)
def RenF (sl : SL) (m0 m1 : Nm) (g1 : Nat→Nm) (fl : FL) : FL→Prop
  | []=>True
  | (t,v) :: r=>(∃ u,lkO fl t = some u∧RenV sl m0 m1 g1 u v)∧RenF sl m0 m1 g1 fl r
theorem RenF.of {sl : SL} {m0 m1 : Nm} {g1 : Nat→Nm} {fl : FL} : ∀ {fl' : FL},RenF sl m0 m1 g1 fl fl'→∀ t v,lkO fl' t = some v→∃ u,lkO fl t = some u∧RenV sl m0 m1 g1 u v
  | [],_,t,v,h=>by cases h
  | (s,w) :: r,hf,t,v,h=>by
    simp only [lkO] at h
    split at h
    · rename_i e
      have e:=Nat.eq_of_beq_eq_true e
      subst e
      obtain rfl:=Option.some.inj h
      exact hf.1
    · exact RenF.of hf.2 t v h
theorem rK {sl : SL} {m0 m1 : Nm} {g1 : Nat→Nm} {v : AVal} (h : ∀ r,¬ v.at r:=by exact fun _ h=>h.elim) : RenV sl m0 m1 g1 v v:=.inr (.inr ⟨rfl,fun r hr=>absurd hr (h r)⟩)
theorem rW {sl : SL} {m0 m1 : Nm} {g1 : Nat→Nm} {off len c : Nat} : RenV sl m0 m1 g1 (.c (.win m0 off len c)) (.c (.win m1 off len c)):=.inl ⟨_,_,_,rfl,rfl⟩
theorem rA {sl : SL} {m0 m1 : Nm} {g1 : Nat→Nm} {k : Nat} : RenV sl m0 m1 g1 (.accv m0 k) (.accv m1 k):=.inr (.inl ⟨_,rfl,rfl⟩)

theorem lkS_grp {m1 : Nm} {ob : AObj} {g : Nat→Nm} {os : List AObj} (hg : ∀ i j,g i = g j→i = j) {m : Nm} {o : AObj} (h : lkS ((m1,ob) :: famL g 0 os) m = some o) : (m = m1∧o = ob) ∨ ∃ i,m = g i∧os[i]? = some o:=by
  simp only [lkS] at h
  split at h
  · rename_i e;exact .inl ⟨e,(Option.some.inj h).symm⟩
  · by_cases q : ∃ i,m = g i
    · obtain ⟨i,rfl⟩:=q
      rw [lkS_fam hg] at h
      exact .inr ⟨i,rfl,h⟩
    · rw [lkS_famN (fun i e=>q ⟨i,e⟩)] at h;cases h

open Classical in
theorem Weak.renG {fl fl' : FL} {A sl : SL} {S : Store} {m0 m1 : Nm} {g0 g1 : Nat→Nm} {ob0 ob1 : AObj} {os : List AObj}
    (h0 : lkS A m0 = some ob0) (hos : ∀ i o,os[i]? = some o→lkS A (g0 i) = some o∧o.nm0) (hob : ∀ φ : Nm→Nm,(∀ i,i < os.length→φ (g1 i) = g0 i)→ob1.map φ = ob0)
    (hobN : ∀ x ∈ ob1.cls,∀ r,x.at r→∃ i,i < os.length∧r = g1 i)
    (hg1 : ∀ i j,g1 i = g1 j→i = j) (hgm : ∀ i,g1 i ≠ m1) (hg0 : ∀ i j,i < os.length→j < os.length→g0 i = g0 j→i = j) (hgm0 : ∀ i,i < os.length→g0 i ≠ m0)
    (hm1 : m1.isOut = false) (hgo : ∀ i,(g1 i).isOut = false) (hA : ∀ m,lkS A m ≠ none→m.isOut = false∧lkS sl m = none) (hsl : ∀ n o,lkS sl n = some o→o.nm0)
    (hfl : RenF sl m0 m1 g1 fl fl') :
    Weak ⟨lk' fl,ov (A ++ sl) (pushS S)⟩ ⟨lk' fl',ov (((m1,ob1) :: famL g1 0 os) ++ sl) (pushS S)⟩:=fun w ρ tm hs=>by
  have hcl:=hs.env.cl
  obtain ⟨φ,hφ⟩ : ∃ φ : Nm→Nm,φ = fun m=>if m = m1 then m0 else if h : ∃ i,i < os.length∧m = g1 i then g0 (Classical.choose h) else m:=⟨_,rfl⟩
  have φ1 : φ m1 = m0:=by rw [hφ];simp
  have φg : ∀ i,i < os.length→φ (g1 i) = g0 i:=fun i hi=>by
    rw [hφ]
    have hx : ∃ j,j < os.length∧g1 i = g1 j:=⟨i,hi,rfl⟩
    simp only [if_neg (hgm i),dif_pos hx]
    congr 1
    exact (hg1 _ _ (Classical.choose_spec hx).2).symm
  have φn : ∀ m,m ≠ m1→(∀ i,i < os.length→m ≠ g1 i)→φ m = m:=fun m h1 h2=>by
    rw [hφ]
    simp only [if_neg h1]
    rw [dif_neg (fun ⟨i,hi,e⟩=>h2 i hi e)]
  have φo : ∀ m,φ (.out m) = .out m:=fun m=>φn _ (fun e=>by rw [← e] at hm1;cases hm1) (fun i _ e=>by have:=hgo i;rw [← e] at this;cases this)
  -- the new store
  obtain ⟨G,hG⟩ : ∃ G,G = ((m1,ob1) :: famL g1 0 os):=⟨_,rfl⟩
  have Gi : ∀ i o,os[i]? = some o→lkS G (g1 i) = some o:=fun i o h=>by
    rw [hG];simp only [lkS,if_neg (hgm i)];rw [lkS_fam hg1];exact h
  have Gs : ∀ m o,lkS G m = some o→(m = m1∧o = ob1) ∨ ∃ i,i < os.length∧m = g1 i∧os[i]? = some o:=fun m o h=>by
    rw [hG] at h
    rcases lkS_grp hg1 h with h | ⟨i,h1,h2⟩
    · exact .inl h
    · exact .inr ⟨i,(List.getElem?_eq_some_iff.1 h2).1,h1,h2⟩
  have Gn : ∀ m,lkS G m = none→m ≠ m1∧∀ i,i < os.length→m ≠ g1 i:=fun m h=>by
    refine ⟨fun e=>?_,fun i hi e=>?_⟩
    · subst e;rw [hG] at h;simp [lkS] at h
    · subst e;rw [Gi i _ (List.getElem?_eq_getElem hi)] at h;cases h
  have Gout : ∀ m,lkS G (.out m) = none:=fun m=>by
    cases e : lkS G (.out m) with
    | none=>rfl
    | some o =>
      rcases Gs _ _ e with ⟨e,-⟩ | ⟨i,-,e,-⟩
      · rw [← e] at hm1;cases hm1
      · have:=hgo i;rw [← e] at this;cases this
  have F1 : ∀ m o,lkS G m = some o→ov (G ++ sl) (pushS S) m = some o:=fun m o h=>by simp only [ov,lkS_app,h]
  have F2 : ∀ m,lkS G m = none→ov (G ++ sl) (pushS S) m = ov sl (pushS S) m:=fun m h=>by simp only [ov,lkS_app,h]
  have A1 : ∀ m o,lkS A m = some o→ov (A ++ sl) (pushS S) m = some o:=fun m o h=>by simp only [ov,lkS_app,h]
  have A2 : ∀ m,lkS A m = none→ov (A ++ sl) (pushS S) m = ov sl (pushS S) m:=fun m h=>by simp only [ov,lkS_app,h]
  have ANone : ∀ m,lkS A m ≠ none→ov sl (pushS S) m = none:=fun m h=>by
    obtain ⟨h1,h2⟩:=hA m h
    simp only [ov,h2]
    cases m <;> first | rfl | cases h1
  -- what is called as before
  have Fk : ∀ m o,lkS G m = none→ov (G ++ sl) (pushS S) m = some o→ov (A ++ sl) (pushS S) m = some o∧φ m = m∧lkS A m = none:=fun m o h1 h2=>by
    rw [F2 m h1] at h2
    have h3 : lkS A m = none:=Classical.byContradiction fun h=>by rw [ANone m h] at h2;cases h2
    exact ⟨by rw [A2 m h3];exact h2,φn m (Gn m h1).1 (Gn m h1).2,h3⟩
  have Ak0 : lkS A m0 ≠ none:=by rw [h0];simp
  have Akg : ∀ i,i < os.length→lkS A (g0 i) ≠ none:=fun i hi=>by rw [(hos i _ (List.getElem?_eq_getElem hi)).1];simp
  have dom1 : ov (G ++ sl) (pushS S) m1 ≠ none:=by rw [F1 m1 ob1 (by rw [hG];simp [lkS])];simp
  have domg : ∀ i,i < os.length→ov (G ++ sl) (pushS S) (g1 i) ≠ none:=fun i hi=>by rw [F1 _ _ (Gi i _ (List.getElem?_eq_getElem hi))];simp
  have objs : ∀ m o,lkS G m = none→ov (G ++ sl) (pushS S) m = some o→o.map φ = o∧o.cl (ov (G ++ sl) (pushS S)):=fun m o h1 h2=>by
    have h3:=(Fk m o h1 h2).1
    rw [F2 m h1] at h2
    cases e : lkS sl m with
    | some o2 =>
      simp only [ov,e] at h2
      obtain rfl:=Option.some.inj h2
      exact ⟨AObj.map_nm0 (hsl m _ e),AObj.cl_nm0 (hsl m _ e)⟩
    | none =>
      simp only [ov,e] at h2
      obtain ⟨q,b,rfl,hb,rfl⟩:=pushS_some h2
      have hat : ∀ x ∈ (b.map .out).cls,∀ r,x.at r→∃ n,r = .out n:=fun x hx r hr=>by
        obtain ⟨z,hz,rfl⟩:=cls_map hx
        obtain ⟨n,hn,rfl⟩:=Cell.map_at hr
        exact ⟨n,rfl⟩
      refine ⟨?_,AObj.cl_cls.2 fun x hx r hr=>?_⟩
      · rw [AObj.map_congr (ψ:=id) fun x hx r hr=>by obtain ⟨n,rfl⟩:=hat x hx r hr;exact φo n,AObj.map_id]
      · obtain ⟨n,rfl⟩:=hat x hx r hr
        have h4:=AObj.cl_cls.1 (hcl _ _ h3) x hx _ hr
        have h5 : lkS A (.out n) = none:=Classical.byContradiction fun h=>by have:=(hA _ h).1;cases this
        rw [F2 _ (Gout n),← A2 _ h5];exact h4
  rw [← hG]
  refine (Weak.back (st:=⟨lk' fl,ov (A ++ sl) (pushS S)⟩) (F:=⟨lk' fl',ov (G ++ sl) (pushS S)⟩) φ ⟨fun m m' h1 h2 e=>?_,fun m o hm=>?_,fun m o hm=>?_⟩ φo (fun m h1 h2=>?_) (fun m=>?_) (fun t=>?_)) w ρ tm hs
  · -- no two names for one
    have cls : ∀ m,ov (G ++ sl) (pushS S) m ≠ none→(m = m1∧φ m = m0) ∨ (∃ i,i < os.length∧m = g1 i∧φ m = g0 i) ∨ (φ m = m∧lkS A m = none):=fun m h=>by
      cases e : lkS G m with
      | some o =>
        rcases Gs m o e with ⟨rfl,-⟩ | ⟨i,hi,rfl,-⟩
        · exact .inl ⟨rfl,φ1⟩
        · exact .inr (.inl ⟨i,hi,rfl,φg i hi⟩)
      | none =>
        cases e2 : ov (G ++ sl) (pushS S) m with
        | none=>exact absurd e2 h
        | some o=>have:=Fk m o e e2;exact .inr (.inr this.2)
    rcases cls m h1 with ⟨rfl,q⟩ | ⟨i,hi,rfl,q⟩ | ⟨q,q2⟩ <;> rcases cls m' h2 with ⟨rfl,r⟩ | ⟨j,hj,rfl,r⟩ | ⟨r,r2⟩ <;> have e:=(q.symm.trans e).trans r
    · rfl
    · exact absurd e.symm (hgm0 j hj)
    · rw [e] at Ak0;exact absurd r2 Ak0
    · exact absurd e (hgm0 i hi)
    · rw [hg0 i j hi hj e]
    · have:=Akg i hi;rw [e] at this;exact absurd r2 this
    · rw [← e] at Ak0;exact absurd q2 Ak0
    · have:=Akg j hj;rw [← e] at this;exact absurd q2 this
    · exact e
  · show ov (A ++ sl) (pushS S) (φ m) = some (o.map φ)
    have hm : ov (G ++ sl) (pushS S) m = some o:=hm
    cases e : lkS G m with
    | some o' =>
      have:=F1 m o' e
      rw [hm] at this
      obtain rfl:=Option.some.inj this
      rcases Gs m o e with ⟨rfl,rfl⟩ | ⟨i,hi,rfl,h3⟩
      · rw [φ1,hob φ φg];exact A1 _ _ h0
      · rw [φg i hi,AObj.map_nm0 (hos i o h3).2];exact A1 _ _ (hos i o h3).1
    | none =>
      obtain ⟨h1,h2,-⟩:=Fk m o e hm
      rw [h2,(objs m o e hm).1];exact h1
  · have hm : ov (G ++ sl) (pushS S) m = some o:=hm
    cases e : lkS G m with
    | some o' =>
      have:=F1 m o' e
      rw [hm] at this
      obtain rfl:=Option.some.inj this
      rcases Gs m o e with ⟨rfl,rfl⟩ | ⟨i,hi,rfl,h3⟩
      · refine AObj.cl_cls.2 fun x hx r hr=>?_
        obtain ⟨i,hi,rfl⟩:=hobN x hx r hr
        exact domg i hi
      · exact AObj.cl_nm0 (hos i o h3).2
    | none=>exact (objs m o e hm).2
  · cases e : lkS G m with
    | some o' =>
      rcases Gs m o' e with ⟨rfl,-⟩ | ⟨i,hi,rfl,-⟩
      · rw [φ1] at h2;have:=(hA m0 Ak0).1;rw [h2] at this;cases this
      · rw [φg i hi] at h2;have:=(hA _ (Akg i hi)).1;rw [h2] at this;cases this
    | none=>exact φn m (Gn m e).1 (Gn m e).2
  · show ov (G ++ sl) (pushS S) (.out m) = ov (A ++ sl) (pushS S) (.out m)
    have h5 : lkS A (.out m) = none:=Classical.byContradiction fun h=>by have:=(hA _ h).1;cases this
    rw [F2 _ (Gout m),A2 _ h5]
  · show lk' fl' t = .c .junk ∨ ((lk' fl' t).cl (ov (G ++ sl) (pushS S))∧lk' fl t = (lk' fl' t).map φ)
    simp only [lk']
    cases e : lkO fl' t with
    | none=>exact .inl rfl
    | some v =>
      obtain ⟨u,h1,h2⟩:=hfl.of t v e
      rw [h1]
      simp only [Option.getD_some]
      refine .inr ?_
      rcases h2 with ⟨off,len,c,rfl,rfl⟩ | ⟨k,rfl,rfl⟩ | ⟨rfl,h2⟩
      · exact ⟨fun r hr=>by have : m1 = r:=hr;subst this;exact dom1,by simp only [AVal.map,AVal.map1,Cell.map,φ1]⟩
      · exact ⟨fun r hr=>by have : m1 = r:=hr;subst this;exact dom1,by simp only [AVal.map,AVal.map1,φ1]⟩
      · refine ⟨fun r hr=>?_,?_⟩
        · obtain ⟨h3,h4,h5⟩:=h2 r hr
          have h6 : lkS G r = none:=by
            cases q : lkS G r with
            | none=>rfl
            | some o =>
              rcases Gs r o q with ⟨q,-⟩ | ⟨i,-,q,-⟩
              · exact absurd q h4
              · exact absurd q (h5 i)
          rw [F2 r h6]
          simp only [ov]
          cases q : lkS sl r with
          | none=>exact absurd q h3
          | some o=>simp
        · have : u.map φ = u:=by
            rw [AVal.map_congr (ψ:=id) fun r hr=>φn r (h2 r hr).2.1 fun i _=>(h2 r hr).2.2 i,AVal.map_id]
          exact this.symm
end Go.Abs

/-
  Functions that read families and hand out one.
-/
namespace Go.Abs
open Go
section
variable {P : Program} {mu : FuncId→Bool}
structure AReadF (P : Program) (f : FuncId) (args : List AVal) (pre : SL) (res : Nm→AVal) (ob : Nm→AObj) (os : List AObj) : Prop where
  calls : ∀ Φ,(∀ p ∈ pre,Φ p.1 = some p.2)→ACalls P f args Φ res (fun n=>(n,ob n) :: famL (.fam n) 0 os)
  resN : ∀ n m,(res n).at m→m = n
  obN : ∀ n,∀ x ∈ (ob n).cls,∀ m,x.at m→∃ i,i < os.length∧m = .fam n i
  os0 : ∀ o ∈ os,o.nm0

variable {T : TT} {ops : Array Oper} {fl : FL} {sl : SL} {S : Store} {K : St→Prop} {d : Nat} {ty : TypeId} {pos : String} {after : Array Edge}

end
end Go.Abs

/-
  Lists of anything built and appended to.
-/
namespace Go.Abs
open Go

def plS (sz n : Nat) : List (Nat × Nat):=(List.range n).map fun i=>(i * sz,sz)
theorem plS_get {sz n i : Nat} {q : Nat × Nat} (h : (plS sz n)[i]? = some q) : some (i * sz,sz) = some q:=by
  unfold plS at h
  rw [List.getElem?_map,Option.map_eq_some_iff] at h
  obtain ⟨j,h1,rfl⟩:=h
  rw [List.getElem?_range (by have:=(List.getElem?_eq_some_iff.1 h1).1;simpa using this)] at h1
  obtain rfl:=Option.some.inj h1
  rfl

section
variable {P : Program} {T : TT} {mu : FuncId→Bool} {N : Nat} {ops : Array Oper} {fl : FL} {sl : SL} {S : Store} {K : St→Prop}
  {d : Nat} {ty : TypeId} {pos : String} {after : Array Edge}

theorem s_bld {t e : TypeId} {n sz : Nat} {ps : Array (Nat × Operand)} {z out : List Cell} (hT : TOk P T) (kk : K ⟨lk' ((d,.c (.win (.loc d) 0 n n)) :: fl),ov ((.loc d,.cells e out) :: sl) (pushS S)⟩)
    (ht : undT T t = some (.slice e):=by exact rfl) (hc : celT T e = sz + 1:=by exact rfl) (hz : zerF T e = some z:=by exact rfl) (hzl : Nat.beq z.length (sz + 1) = true:=by exact rfl) (hf : fillF fl (plS (sz + 1) n) (rep n z) ps.toList = some out:=by exact rfl)
    (hsmall : Nat.ble (n * (sz + 1)) 10000 = true:=by exact rfl) (hfr : freeO sl d = true:=by exact fro) :
    Stp P mu ops ⟨some d,.buildSlice t n ps,ty,pos,after,none⟩ ⟨lk' fl,ov sl (pushS S)⟩ K:=by
  have ht:=hT.und ht
  have hc:=hT.cel hc (by simp)
  obtain ⟨h1,h2⟩:=zerF_spec hT hz
  have hs:=Nat.le_of_ble_eq_true hsmall
  refine ⟨_,⟨_,_,⟨d,.cells e out,rfl,freeO_spec hfr,⟨e,z,out,ht,by omega,by rw [hc];omega,h1,by rw [hc];exact Nat.eq_of_beq_eq_true hzl,h2,?_,.inl ⟨rfl,.inl rfl⟩⟩,rfl⟩,rfl⟩,by rw [putF_lk,upd_ov];exact kk⟩
  exact fillF_spec (fun i q hq=>by rw [hc];exact plS_get hq) hf
theorem s_bldA {t e : TypeId} {n sz : Nat} {ps : Array (Nat × Operand)} {z : List Cell} {R : List (List Cell)} (hT : TOk P T) (kk : K ⟨lk' ((d,.accv (.loc d) n) :: fl),ov ((.loc d,.acc e (sz + 1) R) :: sl) (pushS S)⟩)
    (hf : fillF fl (plS (sz + 1) n) (rep n z) ps.toList = some R.flatten:=by exact rfl) (hR : R.length = n:=by exact rfl) (hR2 : ∀ c ∈ R,c.length = sz + 1:=by simp)
    (ht : undT T t = some (.slice e):=by exact rfl) (hc : celT T e = sz + 1:=by exact rfl) (hz : zerF T e = some z:=by exact rfl) (hzl : Nat.beq z.length (sz + 1) = true:=by exact rfl)
    (hsmall : Nat.ble (n * (sz + 1)) 10000 = true:=by exact rfl) (hfr : freeO sl d = true:=by exact fro) :
    Stp P mu ops ⟨some d,.buildSlice t n ps,ty,pos,after,none⟩ ⟨lk' fl,ov sl (pushS S)⟩ K:=by
  have ht:=hT.und ht
  have hc:=hT.cel hc (by simp)
  obtain ⟨h1,h2⟩:=zerF_spec hT hz
  have hs:=Nat.le_of_ble_eq_true hsmall
  refine ⟨_,⟨_,_,⟨d,.acc e (sz + 1) R,rfl,freeO_spec hfr,⟨e,z,R.flatten,ht,by omega,by rw [hc];omega,h1,by rw [hc];exact Nat.eq_of_beq_eq_true hzl,h2,?_,.inr ⟨R,rfl,hR,by rw [hc];exact hR2,rfl,by rw [hc]⟩⟩,rfl⟩,rfl⟩,by rw [putF_lk,upd_ov];exact kk⟩
  exact fillF_spec (fun i q hq=>by rw [hc];exact plS_get hq) hf

theorem s_appX {s x : Operand} {tys : Array TypeId} {t e : TypeId} {as : Array Operand} {m : Nm} {sz n0 nb : Nat} {L Y : List (List Cell)} {xv : AVal} {z : Value} (hT : TOk P T) (hY : srcR (ov sl S) xv (sz + 1) Y)
    (hl : (L.length + Y.length) * nb ≤ 140737488355328∧L.length + Y.length ≤ maxLen) (kk : K ⟨lk' ((d,.accv m (n0 + Y.length)) :: killL m fl),ov ((m,.acc e (sz + 1) (L ++ Y)) :: sl) S⟩)
    (ha : as.toList = [s,x]:=by exact rfl) (ht : tys.toList = [t,t]:=by exact rfl) (hu : undT T t = some (.slice e):=by exact rfl) (hc1 : celT T e = sz + 1:=by exact rfl)
    (hz : zerT T e = some z:=by exact rfl) (hzl : zlen z (sz + 1) = true:=by exact rfl) (hs : opO fl s = some (.accv m n0):=by exact rfl) (hx : opO fl x = some xv:=by exact rfl) (hm : lkS sl m = some (.acc e (sz + 1) L):=by exact lks)
    (hn : L.length = n0:=by first | rfl | (simp [ptrsG_len];done) | (simp [ptrsG_len];omega))
    (ho : m.isOut = false:=by exact rfl) (hb : bytT T e = some nb:=by exact rfl) :
    Stp P mu ops ⟨some d,.call ⟨.builtin .append,as,tys⟩,ty,pos,after,none⟩ ⟨lk' fl,ov sl S⟩ K:=stp_appG hT ha ht hu hc1 (Nat.succ_pos _) hz hzl hs hx hm hn ho hY hb hl kk
theorem srcR_one {m : Nm} {e : TypeId} {c : List Cell} {cm : Nat} {sz : Nat} (hm : lkS sl m = some (.cells e c)) (hc : c.length = sz) : srcR (ov sl S) (.c (.win m 0 1 cm)) sz [c] :=
  ⟨by simp [hc],rfl,e,.inr ⟨c,.inl (ov_of hm),by omega,by simp [← hc]⟩⟩
theorem srcR_win {m : Nm} {e : TypeId} {cs : List Cell} {len cm sz : Nat} {Y : List (List Cell)} (hm : lkS sl m = some (.cells e cs) ∨ lkS sl m = some (.row e cs)) (hY : ∀ c ∈ Y,c.length = sz) (hl : Y.length = len) (h1 : len * sz ≤ cs.length) (h2 : cs.take (len * sz) = Y.flatten) : srcR (ov sl S) (.c (.win m 0 len cm)) sz Y :=
  ⟨hY,hl,e,.inr ⟨cs,hm.imp ov_of ov_of,by omega,by rw [List.drop_zero];exact h2⟩⟩
end
end Go.Abs

/-
  Lists of pointers, gathered.
-/
namespace Go.Abs
open Go

abbrev accP (ty : TypeId) (g : Nat→Nm) (n : Nat) : AObj:=.acc ty 1 ((ptrsG g n).map fun c=>[c])
abbrev cellP (ty : TypeId) (g : Nat→Nm) (n : Nat) : AObj:=.cells ty (ptrsG g n)
theorem ptrsG_succ (g : Nat→Nm) (n : Nat) : ptrsG g (n + 1) = ptrsG g n ++ [.ptr (g n) 0]:=by simp [ptrsG,List.range_succ]
theorem ptrsG_congr {g h : Nat→Nm} {n : Nat} (e : ∀ i,i < n→g i = h i) : ptrsG g n = ptrsG h n:=List.map_congr_left fun i hi=>by rw [e i (by simpa using hi)]
theorem ptrsG_take (g : Nat→Nm) (n m : Nat) : (ptrsG g n).take m = ptrsG g (min m n):=by
  unfold ptrsG
  rw [← List.map_take,List.take_range]
theorem accP_map {φ : Nm→Nm} {ty : TypeId} {g : Nat→Nm} {n : Nat} : (accP ty g n).map φ = accP ty (fun i=>φ (g i)) n:=by
  simp only [accP,AObj.map,List.map_map]
  congr 1
  rw [← ptrsG_map,List.map_map]
  rfl
theorem cellP_map {φ : Nm→Nm} {ty : TypeId} {g : Nat→Nm} {n : Nat} : (cellP ty g n).map φ = cellP ty (fun i=>φ (g i)) n:=by
  simp only [cellP,AObj.map,ptrsG_map]
theorem accP_nm {ty : TypeId} {g : Nat→Nm} {n : Nat} {x : Cell} (h : x ∈ (accP ty g n).cls) {m : Nm} (hm : x.at m) : ∃ i,i < n∧m = g i:=by
  obtain ⟨c,hc,hx⟩:=List.mem_flatten.1 h
  obtain ⟨y,hy,rfl⟩:=List.mem_map.1 hc
  simp only [List.mem_singleton] at hx
  subst hx
  obtain ⟨j,hj,rfl⟩:=ptrsG_mem hy
  exact ⟨j,hj,hm.symm⟩
theorem cellP_nm {ty : TypeId} {g : Nat→Nm} {n : Nat} {x : Cell} (h : x ∈ (cellP ty g n).cls) {m : Nm} (hm : x.at m) : ∃ i,i < n∧m = g i:=by
  obtain ⟨j,hj,rfl⟩:=ptrsG_mem h
  exact ⟨j,hj,hm.symm⟩

theorem fam_inj (n : Nm) : ∀ i j,Nm.fam n i = Nm.fam n j→i = j:=fun i j h=>by injection h

theorem gathO {fl fl' : FL} {A sl : SL} {S : Store} {b q d k : Nat} {ob0 ob1 o : AObj} {os : List AObj}
    (h0 : lkS A (.loc b) = some ob0) (hd : lkS A (.loc d) = some o) (ho : o.nm0) (hf : ∀ i o',os[i]? = some o'→lkS A (.fam (.loc q) i) = some o'∧o'.nm0) (hk : os.length = k) (hbd : b ≠ d)
    (hob : ∀ φ : Nm→Nm,(∀ i,i < k→φ (.fam (.loc q) i) = .fam (.loc q) i)→φ (.fam (.loc q) k) = .loc d→ob1.map φ = ob0)
    (hobN : ∀ x ∈ ob1.cls,∀ r,x.at r→∃ i,i < k + 1∧r = .fam (.loc q) i) (hA : ∀ m,lkS A m ≠ none→m.isOut = false∧lkS sl m = none) (hsl : ∀ n o,lkS sl n = some o→o.nm0)
    (hfl : RenF sl (.loc b) (.loc b) (.fam (.loc q)) fl fl') :
    Weak ⟨lk' fl,ov (A ++ sl) (pushS S)⟩ ⟨lk' fl',ov (((.loc b,ob1) :: famL (.fam (.loc q)) 0 (os ++ [o])) ++ sl) (pushS S)⟩:=by
  subst hk
  have hlen : (os ++ [o]).length = os.length + 1:=by simp
  refine Weak.renG (g0:=fun i=>if i = os.length then .loc d else .fam (.loc q) i) h0 (fun i o' hi=>?_) (fun φ hφ=>?_) (fun x hx r hr=>by rw [hlen];exact hobN x hx r hr) (fam_inj _) (fun i e=>by cases e) (fun i j hi hj e=>?_) (fun i hi e=>?_) rfl (fun _=>rfl) hA hsl hfl
  · by_cases e : i = os.length
    · subst e
      rw [List.getElem?_append_right (Nat.le_refl _),Nat.sub_self] at hi
      simp only [List.getElem?_cons_zero,Option.some.injEq] at hi
      subst hi
      rw [if_pos rfl];exact ⟨hd,ho⟩
    · have hlt:=(List.getElem?_eq_some_iff.1 hi).1
      rw [hlen] at hlt
      rw [List.getElem?_append_left (by omega)] at hi
      rw [if_neg e];exact hf i o' hi
  · refine hob φ (fun i hi=>?_) ?_
    · have:=hφ i (by rw [hlen];omega)
      rwa [if_neg (by omega)] at this
    · have:=hφ os.length (by rw [hlen];omega)
      rwa [if_pos rfl] at this
  · split at e <;> split at e
    · omega
    · cases e
    · cases e
    · exact fam_inj _ _ _ e
  · split at e
    · injection e with e;exact hbd e.symm
    · cases e

theorem gathA {fl fl' : FL} {A sl : SL} {S : Store} {b q d k : Nat} {ty : TypeId} {o : AObj} {os : List AObj}
    (h0 : lkS A (.loc b) = some (.acc ty 1 ((ptrsG (.fam (.loc q)) k).map (fun c=>[c]) ++ [[.ptr (.loc d) 0]]))) (hd : lkS A (.loc d) = some o) (ho : o.nm0) (hf : ∀ i o',os[i]? = some o'→lkS A (.fam (.loc q) i) = some o'∧o'.nm0) (hk : os.length = k) (hbd : b ≠ d)
    (hA : ∀ m,lkS A m ≠ none→m.isOut = false∧lkS sl m = none) (hsl : ∀ n o,lkS sl n = some o→o.nm0)
    (hfl : RenF sl (.loc b) (.loc b) (.fam (.loc q)) fl fl') :
    Weak ⟨lk' fl,ov (A ++ sl) (pushS S)⟩ ⟨lk' fl',ov (((.loc b,accP ty (.fam (.loc q)) (k + 1)) :: famL (.fam (.loc q)) 0 (os ++ [o])) ++ sl) (pushS S)⟩:=by
  refine gathO h0 hd ho hf hk hbd (fun φ h1 h2=>?_) (fun x hx r hr=>accP_nm hx hr) hA hsl hfl
  rw [accP_map,accP,ptrsG_succ,List.map_append,ptrsG_congr h1,h2]
  rfl

theorem out_none {A : SL} (h : ∀ m,lkS A (.out m) = none) : ∀ m,lkS A m ≠ none→m.isOut = false∧lkS [] m = none:=fun m hm=>by
  cases m with
  | out q=>exact absurd (h q) hm
  | _=>exact ⟨rfl,rfl⟩
theorem gathO0 {fl fl' : FL} {A : SL} {S : Store} {b q d k : Nat} {ob0 ob1 o : AObj} {os : List AObj}
    (h0 : lkS A (.loc b) = some ob0) (hd : lkS A (.loc d) = some o) (ho : o.nm0) (hf : ∀ i o',os[i]? = some o'→lkS A (.fam (.loc q) i) = some o'∧o'.nm0) (hk : os.length = k) (hbd : b ≠ d)
    (hob : ∀ φ : Nm→Nm,(∀ i,i < k→φ (.fam (.loc q) i) = .fam (.loc q) i)→φ (.fam (.loc q) k) = .loc d→ob1.map φ = ob0)
    (hobN : ∀ x ∈ ob1.cls,∀ r,x.at r→∃ i,i < k + 1∧r = .fam (.loc q) i) (hA : ∀ m,lkS A (.out m) = none) (hfl : RenF [] (.loc b) (.loc b) (.fam (.loc q)) fl fl') :
    Weak ⟨lk' fl,ov A (pushS S)⟩ ⟨lk' fl',ov ((.loc b,ob1) :: famL (.fam (.loc q)) 0 (os ++ [o])) (pushS S)⟩:=by
  have:=gathO (S:=S) h0 hd ho hf hk hbd hob hobN (out_none hA) (fun _ _ h=>by cases h) hfl
  simpa only [List.append_nil] using this
theorem gathA0 {fl fl' : FL} {A : SL} {S : Store} {b q d k : Nat} {ty : TypeId} {o : AObj} {os : List AObj}
    (h0 : lkS A (.loc b) = some (.acc ty 1 ((ptrsG (.fam (.loc q)) k).map (fun c=>[c]) ++ [[.ptr (.loc d) 0]]))) (hd : lkS A (.loc d) = some o) (ho : o.nm0) (hf : ∀ i o',os[i]? = some o'→lkS A (.fam (.loc q) i) = some o'∧o'.nm0) (hk : os.length = k) (hbd : b ≠ d)
    (hA : ∀ m,lkS A (.out m) = none) (hfl : RenF [] (.loc b) (.loc b) (.fam (.loc q)) fl fl') :
    Weak ⟨lk' fl,ov A (pushS S)⟩ ⟨lk' fl',ov ((.loc b,accP ty (.fam (.loc q)) (k + 1)) :: famL (.fam (.loc q)) 0 (os ++ [o])) (pushS S)⟩:=by
  have:=gathA (S:=S) h0 hd ho hf hk hbd (out_none hA) (fun _ _ h=>by cases h) hfl
  simpa only [List.append_nil] using this

theorem frz_grp {A B : Store} {m : Nm} {ob : AObj} {g : Nat→Nm} {os : List AObj} (hm : A m = some ob) (hk : ∀ x ∈ ob.cls,∀ q,x.at q→B q ≠ none) (hos : ∀ i o,os[i]? = some o→A (g i) = some o∧o.nm0) : FrzS A B ((m,ob) :: famL g 0 os) :=
  ⟨.inl ⟨ob,hm,.keep hk⟩,fFam fun j o hj=>by rw [Nat.zero_add];exact ⟨(hos j o hj).1,.keep fun x hx q hq=>absurd hq ((hos j o hj).2 x hx q)⟩⟩

section
variable {P : Program} {T : TT} {mu : FuncId→Bool} {ops : Array Oper} {fl : FL} {sl : SL} {S : Store} {K : St→Prop}
  {d : Nat} {ty : TypeId} {pos : String} {after : Array Edge}
theorem s_appP {s x : Operand} {tys : Array TypeId} {t e : TypeId} {as : Array Operand} {m : Nm} {n0 : Nat} {L : List (List Cell)} {xv : AVal} {z : Value} (Y : List (List Cell)) (hT : TOk P T) (hY : srcR (ov sl S) xv 1 Y)
    (hl : L.length + Y.length ≤ 17592186044416) (kk : K ⟨lk' ((d,.accv m (n0 + Y.length)) :: killL m fl),ov ((m,.acc e 1 (L ++ Y)) :: sl) S⟩)
    (ha : as.toList = [s,x]:=by exact rfl) (ht : tys.toList = [t,t]:=by exact rfl) (hu : undT T t = some (.slice e):=by exact rfl) (hc1 : celT T e = 1:=by exact rfl)
    (hz : zerT T e = some z:=by exact rfl) (hzl : zlen z 1 = true:=by exact rfl) (hs : opO fl s = some (.accv m n0):=by exact rfl) (hx : opO fl x = some xv:=by exact rfl) (hm : lkS sl m = some (.acc e 1 L):=by exact lks)
    (hn : L.length = n0:=by first | rfl | (simp [ptrsG_len];done) | (simp [ptrsG_len];omega)) (ho : m.isOut = false:=by exact rfl) (hb : bytT T e = some 8:=by exact rfl) :
    Stp P mu ops ⟨some d,.call ⟨.builtin .append,as,tys⟩,ty,pos,after,none⟩ ⟨lk' fl,ov sl S⟩ K:=stp_appG hT ha ht hu hc1 (by decide) hz hzl hs hx hm hn ho hY hb ⟨by omega,by simp only [maxLen];omega⟩ kk
end
end Go.Abs

/-
  Families frozen while their list goes on.
-/
namespace Go.Abs
open Go
section
variable {A B : Store}
theorem frzAccP {ty ty' : TypeId} {g : Nat→Nm} {rs : List (List Leaf)} (h : ∀ i ls,rs[i]? = some ls→A (g i) = some (.cells ty' (ls.map Leaf.cell))∧B (g i) = none) : FrzO A B (accP ty g rs.length) (.acc ty 1 (rs.map fun ls=>[.pim ls])):=by
  refine .acc ⟨by simp [ptrsG_len],fun i c c' hi hi'=>?_⟩
  simp only [List.getElem?_map,Option.map_eq_some_iff] at hi hi'
  obtain ⟨c0,h1,rfl⟩:=hi
  obtain ⟨ls,h2,rfl⟩:=hi'
  refine ⟨rfl,fun j x y hx hy=>?_⟩
  have hlt:=(List.getElem?_eq_some_iff.1 h2).1
  match j,hx,hy with
  | 0,hx,hy =>
    simp only [List.getElem?_cons_zero,Option.some.injEq] at hx hy
    subst hx hy
    rw [ptrsG_get hlt] at h1
    obtain rfl:=Option.some.inj h1
    exact leaves_frz (h i ls h2).1 (h i ls h2).2
end
theorem lkS_famO {n : Nm} {os : List AObj} {s : Nat} {m : Nm} : lkS (famL (Nm.fam n) s os) (.out m) = none:=lkS_famN (fun i e=>by cases e) os s
theorem lkS_famLoc {n : Nm} {os : List AObj} {s : Nat} {d : Nat} : lkS (famL (Nm.fam n) s os) (.loc d) = none:=lkS_famN (fun i e=>by cases e) os s
theorem frzAccP' {A B : Store} {ty ty' : TypeId} {g : Nat→Nm} {n : Nat} {rs : List (List Leaf)} (hn : rs.length = n) (h : ∀ i ls,rs[i]? = some ls→A (g i) = some (.cells ty' (ls.map Leaf.cell))∧B (g i) = none) : FrzO A B (accP ty g n) (.acc ty 1 (rs.map fun ls=>[.pim ls])):=by
  subst hn;exact frzAccP h
theorem lvs1 {A B : Store} {x y : AVal} (h : LendV A B x y) : LendVs A B [x] [y]:=⟨h,trivial⟩
theorem lvs2 {A B : Store} {x y x' y' : AVal} (h : LendV A B x y) (h' : LendV A B x' y') : LendVs A B [x,x'] [y,y']:=⟨h,h',trivial⟩
end Go.Abs

/-
  Regions that draw their order, where loads stand beside calls that write: what is loaded lies in blocks that no step of the region writes.
-/
namespace Go.Abs
open Go

def Keeps (M : Nm→Prop) (S S' : Store) : Prop:=∀ n,M n→S' n = S n

section
variable {P : Program} {mu : FuncId→Bool} {ops : Array Oper} {M : Nm→Prop}

theorem Keeps.symm {S S' : Store} (h : Keeps M S S') : Keeps M S' S:=fun n hn=>(h n hn).symm
end
end Go.Abs

/-
  Rows of floats and of complex numbers; NaNs handed in; copies.
-/
namespace Go.Abs
open Go

theorem rep_one (n : Nat) (x : Cell) : rep n [x] = List.replicate n x:=by
  induction n with
  | zero=>rfl
  | succ n ih=>unfold rep at ih ⊢;rw [List.replicate_succ,List.flatten_cons,ih,List.replicate_succ];rfl
theorem spl_set (cs : List Cell) (off : Nat) (x : Cell) (h : off < cs.length) : spl cs off [x] = cs.set off x:=by
  unfold spl
  rw [List.set_eq_take_append_cons_drop,if_pos h,List.append_assoc];rfl

section
variable {P : Program} {T : TT} {mu : FuncId→Bool} {ops : Array Oper} {fl : FL} {sl : SL} {S S' : Store} {K : St→Prop}
  {d : Nat} {ty : TypeId} {pos : String} {after : Array Edge}

/-! ### Blocks of them -/
theorem cell_store (hT : TOk P T) {t ty' : TypeId} {x y : Operand} {m : Nm} {off : Nat} {cs : List Cell} {c : Cell} (hx : opO fl x = some (.c (.ptr m off))) (hy : opO fl y = some (.c c)) (hc : celT T t = 1) (hm : lkS sl m = some (.cells ty' cs)) (h : off < cs.length) (hs : c.solid)
    (kk : K ⟨lk' fl,ov ((m,.cells ty' (cs.set off c)) :: sl) S⟩) : Stp P mu ops ⟨none,.store t x y,ty,pos,after,none⟩ ⟨lk' fl,ov sl S⟩ K:=by
  refine ⟨⟨lk' fl,upd (ov sl S) m (.cells ty' (cs.set off c))⟩,?_,by rw [upd_ov];exact kk⟩
  have hc':=hT.cel hc (by decide)
  refine ⟨.c (.sc undef),_,⟨?_,rfl⟩,rfl⟩
  rw [opO_look hx]
  refine .inl ⟨ty',cs,ov_of hm,?_,by omega,?_,?_,?_⟩
  · rw [opO_look hy];exact hs
  · rw [opO_look hy];exact hc'.symm
  · rw [opO_look hy];exact h
  · rw [opO_look hy];show _ = upd _ _ (AObj.cells ty' (spl cs off [c]));rw [spl_set cs off c h]

theorem make_cells (hT : TOk P T) {t e : TypeId} {l c : Operand} {n nb : Nat} {ka kb : IntKind} {z : Cell} (ht : undT T t = some (.slice e)) (hc1 : celT T e = 1) (hb8 : bytT T e = some nb) (hz : zerF T e = some [z]) (hl : opO fl l = some (ivl ka (n : Int))) (hc : opO fl c = some (ivl kb (n : Int))) (hf : freeO sl d = true)
    (hn : nb * n ≤ 281474976710656) (hn2 : n ≤ 9223372036854775807) (kk : K ⟨lk' ((d,.c (.win (.loc d) 0 n n)) :: fl),ov ((.loc d,.cells e (List.replicate n z)) :: sl) (pushS S)⟩) :
    Stp P mu ops ⟨some d,.makeSlice t l c,ty,pos,after,none⟩ ⟨lk' fl,ov sl (pushS S)⟩ K:=by
  obtain ⟨h3,h4⟩:=zerF_spec hT hz
  have hce:=hT.cel hc1 (by decide)
  refine ⟨⟨putF (lk' fl) (some d) (.c (.win (.loc d) 0 n n)),upd (ov sl (pushS S)) (.loc d) (.cells e (List.replicate n z))⟩,?_,by rw [putF_lk,upd_ov];exact kk⟩
  refine ⟨_,_,⟨d,.cells e (List.replicate n z),rfl,freeO_spec hf,?_,rfl⟩,rfl⟩
  refine ⟨e,[z],hT.und ht,by omega,h3,by rw [hce];rfl,h4,?_⟩
  rw [opO_look hl,opO_look hc]
  simp only
  refine ⟨by omega,Int.le_refl _,by rw [hT.byt hb8,← Int.natCast_mul];exact Int.ofNat_le.2 hn,Int.ofNat_le.2 hn2,.inl ⟨by rw [Int.toNat_natCast],.inl (by rw [Int.toNat_natCast,rep_one])⟩⟩
end

/-! ### Told anew -/
section
variable {A B : Store}
end

/-! ### NaNs handed in -/
section
variable {P : Program} {f : FuncId}
theorem AFun.le {args : List AVal} {res res' : AVal} (h : AFun P f args res) (hl : ALe res res') (h0 : nm0 res') : AFun P f args res':=by
  refine ⟨fun Φ n S h1 h2 h3 w ρ vs he hg hv=>?_,h0,h.args0⟩
  rcases h.calls Φ n S h1 h2 h3 w ρ vs he hg hv with ⟨hr,hc⟩ | ⟨v,hr,hv,hu⟩
  · refine .inl ⟨hr,hc.mono fun e w' ⟨ρ',v,e1,e2,e3,e4⟩=>⟨ρ',v,e1,e2,e3,hl.held e4⟩⟩
  · exact .inr ⟨v,hr,hl.held hv,hu⟩
end

/-! ### A scope that is gone through without a jump -/
def scopeA (Q : Exit→St→Prop) : Exit→St→Prop
  | .goto _,_=>False
  | e,st=>Q e st
section
variable {P : Program} {mu : FuncId→Bool} {N : Nat} {Q : Exit→St→Prop} {st : St}
end
end Go.Abs

/-
  Regions that draw their order, in an order of one's own: loads out of blocks that no step writes may stand ahead of calls that write.
-/
namespace Go.Abs
open Go

def isLd (o : Oper) : Bool:=match o.op with
  | .load _ (.tmp _)=>true
  | _=>false
theorem isLd_spec {o : Oper} (h : isLd o = true) : ∃ t x,o.op = .load t (.tmp x):=by
  unfold isLd at h
  split at h
  · rename_i t x e;exact ⟨t,x,e⟩
  · cases h

section
variable {P : Program} {mu : FuncId→Bool} {ops : Array Oper} {Mn : List Nm} {S0 : Store}

def LdG (ops : Array Oper) (Mn : List Nm) (fr : Fram) (o : Oper) : Prop :=
  gd ops fr o = some false ∨ ∃ t x,o.op = .load t (.tmp x)∧((∃ cs,fr x = .c (.pim cs)) ∨ ∃ n off,fr x = .c (.ptr n off)∧n ∈ Mn)

theorem LdG.res {fr : Fram} {o : Oper} {S S1 S' : Store} {v : AVal} (_ : isLd o = true) (h : LdG ops Mn fr o) (hk : ∀ n ∈ Mn,S' n = S n) (hr : aRes P mu ops o fr S v S1) : S1 = S∧aRes P mu ops o fr S' v S':=by
  rcases hr with ⟨g,he⟩ | ⟨g,rfl,rfl⟩
  · rcases h with h | ⟨t,x,e,hs⟩
    · rw [g] at h;cases h
    · unfold eff at he
      rw [e] at he
      simp only [look] at he
      obtain ⟨hld,rfl⟩:=he
      refine ⟨rfl,.inl ⟨g,?_⟩⟩
      unfold eff
      rw [e]
      simp only [look]
      refine ⟨?_,trivial⟩
      rcases hs with ⟨cs,q⟩ | ⟨n,off,q,hm⟩
      · rw [q] at hld ⊢;exact hld
      · rw [q] at hld ⊢
        unfold loadE at hld ⊢
        simp only at hld ⊢
        rw [hk n hm];exact hld
  · exact ⟨rfl,.inr ⟨g,rfl,rfl⟩⟩

theorem LdG.put {fr : Fram} {o : Oper} {d : Option Nat} {v : AVal} (h : LdG ops Mn fr o) (h1 : ∀ t,d = some t→t ∉ o.looksAt ops) : LdG ops Mn (putF fr d v) o:=by
  rcases h with h | ⟨t,x,e,hs⟩
  · exact .inl (by rw [gd_put h1];exact h)
  · have hx : putF fr d v x = fr x:=look_put (fr:=fr) (d:=d) (v:=v) (x:=.tmp x) (fun t ht e'=>h1 t ht (by
      injection e' with e';subst e'
      exact List.mem_append_left _ (List.mem_filterMap.2 ⟨.tmp x,by rw [e];simp [Op.operands],rfl⟩)))
    exact .inr ⟨t,x,e,by rw [hx];exact hs⟩

theorem isLd_app {o : Oper} (h : isLd o = true) : ¬ isApp mu o:=by
  obtain ⟨t,x,e⟩:=isLd_spec h
  unfold isApp;rw [e];simp [kind]

theorem swapG {oi oj : Oper} {st st1 st2 : St} (hl : isLd oi = true) (h : LdG ops Mn st.fr oi) (hap : oi.apart ops oj = true) (nj : ¬ isApp mu oj) (hi : aStep P mu ops oi st st1) (hj : aStep P mu ops oj st1 st2) (hk : ∀ n ∈ Mn,st2.sg n = st1.sg n) :
    ∃ st1',aStep P mu ops oj st st1'∧aStep P mu ops oi st1' st2∧st1'.sg = st2.sg:=by
  obtain ⟨h1,h2,h3⟩:=Oper.apart_spec hap
  have ni : ¬ isApp mu oi:=isLd_app hl
  obtain ⟨vi,S1,ri,rfl⟩:=(aStep_res ni).1 hi
  obtain ⟨vj,S2,rj,rfl⟩:=(aStep_res nj).1 hj
  rw [aRes_put h1] at rj
  obtain ⟨rfl,-⟩:=h.res hl (fun _ _=>rfl) ri
  obtain ⟨-,e2⟩:=h.res hl hk ri
  refine ⟨⟨putF st.fr oj.dst vj,S2⟩,(aStep_res nj).2 ⟨vj,S2,rj,rfl⟩,(aStep_res ni).2 ⟨vi,S2,(aRes_put h3).2 e2,?_⟩,rfl⟩
  simp only [St.mk.injEq,and_true]
  exact putF_comm h2

theorem updL_keep {S : Store} {ups : List (Nm × AObj)} {n : Nm} (h : ∀ p ∈ ups,p.1 ≠ n) : updL S ups n = S n:=by
  induction ups generalizing S with
  | nil=>rfl
  | cons p ups ih =>
    simp only [updL]
    rw [ih (fun q hq=>h q (List.mem_cons_of_mem _ hq))]
    exact upd_ne _ _ (Ne.symm (h p List.mem_cons_self))

theorem eff_keep {fr : Fram} {S S' : Store} {o : Oper} {v : AVal} (hk : kind mu o.op ≠ .write) (h : eff P mu fr S o v S') {n : Nm} (hn : S n ≠ none) : S' n = S n:=by
  have new : ∀ {d : Nat} {ob : AObj},S (.loc d) = none→upd S (.loc d) ob n = S n:=fun hd=>upd_ne _ _ (fun e=>hn (by rw [e];exact hd))
  obtain ⟨dst,op,ty,pos,after,guard⟩:=o
  cases op with
  | load t a=>obtain ⟨-,rfl⟩:=h;rfl
  | store t a x=>exact absurd rfl hk
  | alloc e=>obtain ⟨d,ob,_,h2,_,rfl⟩:=h;exact new h2
  | box e x=>obtain ⟨d,ob,_,h2,_,rfl⟩:=h;exact new h2
  | buildSlice t n ps=>obtain ⟨d,ob,_,h2,_,rfl⟩:=h;exact new h2
  | makeSlice t l c=>obtain ⟨d,ob,_,h2,_,rfl⟩:=h;exact new h2
  | call c =>
    obtain ⟨callee,args,tys⟩:=c
    cases callee with
    | value f =>
      obtain ⟨g,caps,as',Φ,res,ups,h1,h2,h3,h4,h5,rfl,rfl,h6,h7,-⟩:=h
      have hmu : mu g = false:=by
        cases f with
        | func q =>
          have e : g = q:=by simp only [look] at h1;injection h1 with h1 _;exact h1.symm
          subst e
          simp only [kind,kindC] at hk
          cases em : mu g with
          | false=>rfl
          | true=>rw [if_pos em] at hk;exact absurd rfl hk
        | _=>exact absurd rfl hk
      refine updL_keep fun p hp e=>?_
      rcases h6 p hp with q | ⟨i,q⟩ | ⟨q,-⟩
      · exact hn (by rw [← e,q];exact h5.1)
      · exact hn (by rw [← e,q];exact h5.2 i)
      · rw [hmu] at q;cases q
    | invoke rc m=>obtain ⟨-,rfl⟩:=h;rfl
    | builtin b=>obtain ⟨-,rfl⟩:=h;rfl
  | _=>obtain ⟨-,rfl⟩:=h;rfl

theorem aStep_keep {o : Oper} {st st' : St} (ha : ¬ isApp mu o) (hk : kind mu o.op ≠ .write) (h : aStep P mu ops o st st') {n : Nm} (hn : st.sg n ≠ none) : st'.sg n = st.sg n:=by
  obtain ⟨v,S',hr,rfl⟩:=(aStep_res ha).1 h
  rcases hr with ⟨-,he⟩ | ⟨-,-,rfl⟩
  · exact eff_keep hk he hn
  · rfl
theorem aStep_dom {o : Oper} {st st' : St} (ha : ¬ isApp mu o) (h : aStep P mu ops o st st') {n : Nm} (hn : st.sg n ≠ none) : st'.sg n ≠ none:=by
  obtain ⟨v,S',hr,rfl⟩:=(aStep_res ha).1 h
  exact aRes_dom hr hn

def inM (Mn : List Nm) (S0 : Store) (st : St) : Prop:=∀ n ∈ Mn,st.sg n = S0 n

def aAnyM (P : Program) (mu : FuncId→Bool) (ops : Array Oper) (Mn : List Nm) (S0 : Store) (Q : St→Prop) : Nat→Array Bool→St→Prop
  | 0,listed,st=>inM Mn S0 st∧Region.ready .any ops listed = []∧Q st
  | fuel + 1,listed,st=>inM Mn S0 st∧(Region.ready .any ops listed = []→Q st)∧∀ i ∈ Region.ready .any ops listed,∀ o,ops[i]? = some o→∃ st',aStep P mu ops o st st'∧aAnyM P mu ops Mn S0 Q fuel (listed.setIfInBounds i true) st'
theorem aAnyM.any {Q : St→Prop} : ∀ {fuel : Nat} {listed : Array Bool} {st : St},aAnyM P mu ops Mn S0 Q fuel listed st→aAny P mu ops Q fuel listed st
  | 0,_,_,h=>h.2
  | _ + 1,_,_,h=>⟨h.2.1,fun i hi o ho=>by obtain ⟨st',h1,h2⟩:=h.2.2 i hi o ho;exact ⟨st',h1,h2.any⟩⟩
theorem aAnyM.inM {Q : St→Prop} {fuel : Nat} {listed : Array Bool} {st : St} (h : aAnyM P mu ops Mn S0 Q fuel listed st) : inM Mn S0 st:=by cases fuel <;> exact h.1

def LdP (mu : FuncId→Bool) (ops : Array Oper) (Mn : List Nm) (fr : Fram) (oi oj : Oper) : Prop:=oi.apart ops oj = true∧isLd oi = true∧¬ isApp mu oj∧LdG ops Mn fr oi

theorem aAnyM_first {Q : St→Prop} (hM0 : ∀ n ∈ Mn,S0 n ≠ none) {i : Nat} {oi : Oper} (hi : ops[i]? = some oi) (nai : ¬ isApp mu oi) : ∀ (fuel : Nat) (listed : Array Bool) (st st1 : St),WF st.fr st.sg→DC ops listed→inM Mn S0 st →
    (∀ j oj,ops[j]? = some oj→j ≠ i→listed.getD j true = false→Wt ops j i ∨ (oi.apart ops oj = true∧kOk (kind mu oi.op) (kind mu oj.op) = true) ∨ LdP mu ops Mn st.fr oi oj) →
    i ∈ Region.ready .any ops listed→aStep P mu ops oi st st1→aAnyM P mu ops Mn S0 Q fuel (listed.setIfInBounds i true) st1→aAnyM P mu ops Mn S0 Q (fuel + 1) listed st:=by
  intro fuel
  induction fuel with
  | zero =>
    intro listed st st1 hw hdc hin hfree hr hs H
    refine ⟨hin,fun h=>(by rw [h] at hr;cases hr),fun j hj oj hoj=>?_⟩
    by_cases hji : j = i
    · subst hji
      rw [hi] at hoj
      obtain rfl:=Option.some.inj hoj
      exact ⟨st1,hs,H⟩
    · have:=ready_mono hj hji
      rw [H.2.1] at this
      cases this
  | succ fuel ih =>
    intro listed st st1 hw hdc hin hfree hr hs H
    refine ⟨hin,fun h=>(by rw [h] at hr;cases hr),fun j hj oj hoj=>?_⟩
    by_cases hji : j = i
    · subst hji
      rw [hi] at hoj
      obtain rfl:=Option.some.inj hoj
      exact ⟨st1,hs,H⟩
    · obtain ⟨st1j,hsj,Hj⟩:=H.2.2 j (ready_mono hj hji) oj hoj
      obtain ⟨hjun,oj',hoj',hall⟩:=mem_ready.1 hj
      rw [hoj] at hoj'
      obtain rfl:=Option.some.inj hoj'
      have hnw : ¬ Wt ops j i:=fun hq=>by
        have h1:=hq.listed hdc oj hoj hall
        have h0:=(mem_ready.1 hr).1
        rw [getD_true h1 true] at h0;cases h0
      have hc:=(hfree j oj hoj hji hjun).resolve_left hnw
      have nj : ¬ isApp mu oj:=by
        rcases hc with ⟨-,hkk⟩ | ⟨-,-,nj,-⟩
        · intro e;unfold isApp at e;rw [e] at hkk;cases hq : kind mu oi.op <;> rw [hq] at hkk <;> simp [kOk] at hkk
        · exact nj
      have hap : oi.apart ops oj = true:=by rcases hc with ⟨hap,-⟩ | hls;exact hap;exact hls.1
      have hsw : ∃ stj,aStep P mu ops oj st stj∧aStep P mu ops oi stj st1j∧inM Mn S0 stj:=by
        rcases hc with ⟨hap,hkk⟩ | ⟨hap,hl,-,hg⟩
        · obtain ⟨stj,a,b⟩:=swap hw hkk hap hs hsj
          refine ⟨stj,a,b,fun n hn=>?_⟩
          have h0 : st.sg n ≠ none:=by rw [hin n hn];exact hM0 n hn
          by_cases hkj : kind mu oj.op = .write
          · have hki : kind mu oi.op ≠ .write:=fun e=>by rw [e,hkj] at hkk;cases hkk
            rw [← Hj.inM n hn]
            exact (aStep_keep nai hki b (aStep_dom nj a h0)).symm
          · rw [aStep_keep nj hkj a h0];exact hin n hn
        · obtain ⟨stj,a,b,c⟩:=swapG hl hg hap nj hs hsj (fun n hn=>by rw [Hj.inM n hn,H.inM n hn])
          exact ⟨stj,a,b,fun n hn=>by rw [c];exact Hj.inM n hn⟩
      obtain ⟨stj,h1,h2,hinj⟩:=hsw
      refine ⟨stj,h1,ih (listed.setIfInBounds j true) stj st1j (aStep_WF nj h1 hw) (hdc.set hj) hinj (fun k ok hk hki hun=>?_) (ready_mono hr (Ne.symm hji)) h2 ?_⟩
      · have hk':=hfree k ok hk hki (by
          by_cases hjk : j = k
          · subst hjk;exact hjun
          · rw [getD_set_ne true hjk] at hun;exact hun)
        rcases hk' with q | q | ⟨q1,q2,q3,q4⟩
        · exact .inl q
        · exact .inr (.inl q)
        · refine .inr (.inr ⟨q1,q2,q3,?_⟩)
          obtain ⟨vj,Sj,-,rfl⟩:=(aStep_res nj).1 h1
          exact q4.put (Oper.apart_spec hap).2.2
      · rw [Array.setIfInBounds_comm _ _ hji]
        exact Hj

def aOpsM (P : Program) (mu : FuncId→Bool) (ops : Array Oper) (Mn : List Nm) (S0 : Store) (lds : List Nat) : List Nat→(St→Prop)→St→Prop
  | [],Q,st=>inM Mn S0 st∧Q st
  | i :: rest,Q,st=>inM Mn S0 st∧∃ o,ops[i]? = some o∧(lds.contains i = true→LdG ops Mn st.fr o)∧∃ st',aStep P mu ops o st st'∧aOpsM P mu ops Mn S0 lds rest Q st'

def lexM (mu : FuncId→Bool) (ops : Array Oper) (ms : List Nat) (lds : List Nat) : List Nat→List Nat→Bool
  | _,[]=>true
  | done,i :: rest=>(match ops[i]? with
    | none=>false
    | some oi=>kind mu oi.op != .app && (oi.after.toList.all fun e=>!Region.binds .any e || done.contains e.on) && !rest.contains i && !done.contains i &&
      rest.all fun j=>(ms.getD j 0).testBit i || (match ops[j]? with
        | none=>true
        | some oj=>oi.apart ops oj && (kOk (kind mu oi.op) (kind mu oj.op) || (lds.contains i && isLd oi && kind mu oj.op != .app)))) && lexM mu ops ms lds (i :: done) rest
def permOK (mu : FuncId→Bool) (ops : Array Oper) (lds π : List Nat) : Bool :=
  Nat.beq π.length ops.size && (List.range ops.size).all (fun j=>π.contains j) && π.all (fun j=>Nat.blt j ops.size) && lexM mu ops (masks [] ops.toList) lds [] π

theorem aAnyM_perm {Q : St→Prop} (hM0 : ∀ n ∈ Mn,S0 n ≠ none) {lds : List Nat} : ∀ (rest done : List Nat) (listed : Array Bool) (st : St),lexM mu ops (masks [] ops.toList) lds done rest = true→WF st.fr st.sg→DC ops listed →
    (∀ j,listed.getD j true = false ↔ j ∈ rest)→(∀ j,listed.getD j false = true ↔ j ∈ done)→aOpsM P mu ops Mn S0 lds rest Q st→aAnyM P mu ops Mn S0 Q rest.length listed st
  | [],done,listed,st,_,hw,hdc,h1,h2,h=>by
    refine ⟨h.1,?_,h.2⟩
    cases hq : Region.ready .any ops listed with
    | nil=>rfl
    | cons x xs =>
      have:=(mem_ready.1 (show x ∈ Region.ready .any ops listed by rw [hq];simp)).1
      exact absurd ((h1 x).1 this) List.not_mem_nil
  | k :: rest,done,listed,st,hB,hw,hdc,h1,h2,⟨hin,o,h0,hld,st',hs,h⟩=>by
    simp only [lexM,Bool.and_eq_true] at hB
    obtain ⟨hBk,hB'⟩:=hB
    rw [h0] at hBk
    simp only [Bool.and_eq_true,bne_iff_ne,ne_eq,List.all_eq_true,Bool.or_eq_true,Bool.not_eq_true',List.contains_eq_mem,decide_eq_true_eq,decide_eq_false_iff_not] at hBk
    obtain ⟨⟨⟨⟨hna,hed⟩,hnr⟩,hnd⟩,hfr⟩:=hBk
    have hklt : k < ops.size:=(Array.getElem?_eq_some_iff.1 h0).1
    have hr : k ∈ Region.ready .any ops listed:=mem_ready.2 ⟨(h1 k).2 List.mem_cons_self,o,h0,fun e he hb=>(h2 _).2 (by
      rcases hed e (by simpa using he) with q | q
      · rw [hb] at q;cases q
      · exact q)⟩
    have hsz:=hdc.1
    have g1 : ∀ j,(listed.setIfInBounds k true).getD j true = false ↔ j ∈ rest:=fun j=>by
      by_cases e : k = j
      · subst e
        simp [Array.getD_eq_getD_getElem?,show k < listed.size by omega,hnr]
      · rw [getD_set_ne true e,h1 j,List.mem_cons];exact ⟨fun h=>h.resolve_left (fun q=>e q.symm),.inr⟩
    have g2 : ∀ j,(listed.setIfInBounds k true).getD j false = true ↔ j ∈ k :: done:=fun j=>by
      by_cases e : k = j
      · subst e
        simp [Array.getD_eq_getD_getElem?,show k < listed.size by omega]
      · rw [getD_set_ne false e,h2 j,List.mem_cons];exact ⟨.inr,fun h=>h.resolve_left (fun q=>e q.symm)⟩
    refine aAnyM_first hM0 h0 hna rest.length listed st st' hw hdc hin (fun j oj hoj hjk hun=>?_) hr hs
      (aAnyM_perm hM0 rest (k :: done) _ st' hB' (aStep_WF hna hs hw) (hdc.set hr) g1 g2 h)
    have hj : j ∈ rest:=(List.mem_cons.1 ((h1 j).1 hun)).resolve_left hjk
    rcases hfr j hj with q | q
    · exact .inl (masks_spec ops.toList [] (by simp) (fun j i hq=>by simp at hq) j k q)
    · rw [hoj] at q
      simp only [Bool.and_eq_true,Bool.or_eq_true,bne_iff_ne,ne_eq] at q
      obtain ⟨q1,q2 | ⟨⟨q2,q3⟩,q4⟩⟩:=q
      · exact .inr (.inl ⟨q1,q2⟩)
      · exact .inr (.inr ⟨q1,q3,q4,hld (by simpa using q2)⟩)

variable {N : Nat} {Q : Exit→St→Prop} {st : St}
theorem awp_perm {id : Nat} (Mn : List Nm) (lds π : List Nat) (hB : permOK mu ops lds π = true) (hM0 : ∀ n ∈ Mn,st.sg n ≠ none) (h : aOpsM P mu ops Mn st.sg lds π (Q .normal) st) : awp P mu N (.region id ops true) Q st:=fun hm hok B w ρ a hd hn hi=>by
  simp only [okC,Bool.and_eq_true,List.all_eq_true,Bool.or_eq_true,Bool.not_eq_true'] at hok
  have hb : ∀ o ∈ ops.toList,∀ t,o.dst = some t→t < N:=fun o ho t ht=>by
    have:=hok.1 o ho
    rw [ht] at this
    simpa using this
  refine wp_region_any hm ?_
  have hi':=hi.heap (w':={ w with drawn:=w.drawn + 1 }) rfl rfl rfl rfl
  refine aAny_sound (mu:=mu) (fun o ho=>hb o (by simpa using ho)) _ _ st _ ρ a hd hn hi' ?_
  unfold permOK at hB
  simp only [Bool.and_eq_true,List.all_eq_true,List.mem_range,List.contains_eq_mem,decide_eq_true_eq] at hB
  obtain ⟨⟨⟨b1,b2⟩,b3⟩,b4⟩:=hB
  have b1:=Nat.eq_of_beq_eq_true b1
  have:=aAnyM_perm (P:=P) hM0 π [] (Array.replicate ops.size false) st b4 hi.sim.wf ⟨by simp,fun k o ho hk=>by
    rcases Nat.lt_or_ge k ops.size with q | q
    · simp [Array.getD_eq_getD_getElem?,q] at hk
    · rw [Array.getElem?_eq_none q] at ho;cases ho⟩ (fun j=>by
    rcases Nat.lt_or_ge j ops.size with q | q
    · simp [Array.getD_eq_getD_getElem?,q,b2 j q]
    · have hnj : j ∉ π:=fun hj=>by have:=Nat.le_of_ble_eq_true (b3 j hj);omega
      simp [Array.getD_eq_getD_getElem?,Array.getElem?_eq_none (show (Array.replicate ops.size false).size ≤ j by simpa using q),hnj]) (fun j=>by
    rcases Nat.lt_or_ge j ops.size with q | q
    · simp [Array.getD_eq_getD_getElem?,q]
    · simp [Array.getD_eq_getD_getElem?,Array.getElem?_eq_none (show (Array.replicate ops.size false).size ≤ j by simpa using q)]) h
  rw [b1] at this
  exact this.any
end

/-! ### By lists -/
section
variable {P : Program} {mu : FuncId→Bool} {ops : Array Oper} {Mn : List Nm} {lds : List Nat} {fl fl0 : FL} {sl sl0 : SL} {S : Store} {K : St→Prop}
theorem inM_nil {S0 : Store} {st : St} : inM [] S0 st:=fun n hn=>by cases hn
theorem inM_cons {n : Nm} {o : AObj} (h : inM Mn (ov sl0 S) ⟨lk' fl,ov sl S⟩) (h1 : lkS sl n = some o:=by exact lks) (h2 : lkS sl0 n = some o:=by exact lks) : inM (n :: Mn) (ov sl0 S) ⟨lk' fl,ov sl S⟩:=fun m hm=>by
  rcases List.mem_cons.1 hm with rfl | hm
  · exact (ov_of h1).trans (ov_of h2).symm
  · exact h m hm
theorem zm1 {S0 : Store} {i : Nat} {rest : List Nat} {o : Oper} {st : St} (hin : inM Mn S0 st) (hl : lds.contains i = false) (ho : ops[i]? = some o) (h : Stp P mu ops o st (aOpsM P mu ops Mn S0 lds rest K)) : aOpsM P mu ops Mn S0 lds (i :: rest) K st :=
  ⟨hin,o,ho,fun e=>(by rw [hl] at e;cases e),h⟩
theorem zm2 {S0 : Store} {i : Nat} {rest : List Nat} {o : Oper} {st : St} (hin : inM Mn S0 st) (hg : LdG ops Mn st.fr o) (ho : ops[i]? = some o) (h : Stp P mu ops o st (aOpsM P mu ops Mn S0 lds rest K)) : aOpsM P mu ops Mn S0 lds (i :: rest) K st :=
  ⟨hin,o,ho,fun _=>hg,h⟩
theorem ldg_pim {o : Oper} {t : TypeId} {x : Nat} {cs : List Leaf} (e : o.op = .load t (.tmp x)) (h : lkO fl x = some (.c (.pim cs))) : LdG ops Mn (lk' fl) o:=.inr ⟨t,x,e,.inl ⟨cs,lkO_look h⟩⟩
theorem ldg_ptr {o : Oper} {t : TypeId} {x : Nat} {n : Nm} {off : Nat} (e : o.op = .load t (.tmp x)) (h : lkO fl x = some (.c (.ptr n off))) (hn : n ∈ Mn) : LdG ops Mn (lk' fl) o:=.inr ⟨t,x,e,.inr ⟨n,off,lkO_look h,hn⟩⟩
theorem zm4 {S0 : Store} {i : Nat} {rest : List Nat} {o : Oper} {st : St} (h : Stp P mu ops o st (aOpsM P mu ops Mn S0 lds rest K)) (hl : lds.contains i = false:=by exact rfl) (hin : inM Mn S0 st:=by first | exact inM_nil | exact inM_cons inM_nil | exact inM_cons (inM_cons inM_nil) | exact inM_cons (inM_cons (inM_cons inM_nil))) (ho : ops[i]? = some o:=by exact rfl) :
    aOpsM P mu ops Mn S0 lds (i :: rest) K st:=zm1 hin hl ho h
theorem zm5 {S0 : Store} {i : Nat} {rest : List Nat} {o : Oper} {st : St} (h : Stp P mu ops o st (aOpsM P mu ops Mn S0 lds rest K)) (ho : ops[i]? = some o:=by exact rfl) (hin : inM Mn S0 st:=by first | exact inM_nil | exact inM_cons inM_nil | exact inM_cons (inM_cons inM_nil) | exact inM_cons (inM_cons (inM_cons inM_nil)))
    (hg : LdG ops Mn st.fr o:=by first | exact ldg_pim rfl (by exact rfl) | exact ldg_ptr rfl (by exact rfl) (by simp) | exact ldg_off rfl (by exact rfl) (by exact rfl) rfl) : aOpsM P mu ops Mn S0 lds (i :: rest) K st:=zm2 hin hg ho h
theorem zm6 {S0 : Store} {st : St} (h : K st) (hin : inM Mn S0 st:=by first | exact inM_nil | exact inM_cons inM_nil | exact inM_cons (inM_cons inM_nil) | exact inM_cons (inM_cons (inM_cons inM_nil))) : aOpsM P mu ops Mn S0 lds [] K st:=⟨hin,h⟩
end
end Go.Abs

/-
  A struct with a pointer to a new block, handed out from a result cell.
-/
namespace Go.Abs
open Go

section
variable {P : Program} {mu : FuncId→Bool}

end
end Go.Abs

/-
  A pointer held against nil.
-/
namespace Go.Abs
open Go

section
variable {P : Program} {T : TT} {mu : FuncId→Bool} {N : Nat} {ops : Array Oper} {fl : FL} {S' : Store} {Q : Exit→St→Prop} {l : List Oper} {d : Nat} {ty : TypeId} {pos : String} {after : Array Edge}

theorem run_neq_nilp {t e : TypeId} (ht : P.underlying t = some (.pointer e)) (A : Addr) (w : World) : (Op.equal t (.pointer (some A)) (.pointer none)).run P w = .ok false w:=by
  have : ∀ d,(Op.equalIn (d + 1) t (.pointer (some A)) (.pointer none)).run P w = .ok false w:=fun d=>by
    simp [Op.equalIn,run_underlying' ht]
  exact this 9999

theorem aw_ptrnil (hT : TOk P T) {x : Operand} {t t1 : TypeId} {e : TypeId} {cs : List Leaf} (h : aw P mu N ops Q l ⟨lk' ((d,bvl true) :: fl),S'⟩)
    (hu : undT T t = some (.pointer e):=by exact rfl) (hx : opO fl x = some (.c (.pim cs)):=by exact rfl) :
    aw P mu N ops Q (⟨some d,.binOp .neq t x (.const (.pointer none)) t1,ty,pos,after,none⟩ :: l) ⟨lk' fl,S'⟩:=by
  intro hb B w ρ a hd hn hi
  refine wpList_step fun K hK=>?_
  have hv:=hi.sim.look x
  rw [opO_look hx] at hv
  obtain ⟨b,off,hv,-,-⟩:=hv
  simp only [Region.wanted,if_true]
  have go : K (a.put (some d) (.bool true)) w:=by
    have hdl : ∀ t,some d = some t→t < a.tmps.size:=fun t ht=>by rw [hn];exact hb _ List.mem_cons_self t ht
    have hs:=hi.sim.put (d:=some d) (v:=bvl true) (u:=.bool true) hi.sim.env (Ext.refl _ _ _) (lk' fl) (fun t=>.inr ⟨rfl,fun _ hX=>hX.elim⟩) hdl (rfl : Value.bool true = .bool true)
    rw [putF_lk] at hs
    exact hK _ _ (h (fun o ho=>hb o (by simp [ho])) B w ρ _ (by rw [put_defers];exact hd) (by rw [put_size];exact hn) (hi.step hs (Ext.refl _ _ _) (fun _ h=>h.elim)))
  have hrun : (execOp a.eval ⟨some d,.binOp .neq t x (.const (.pointer none)) t1,ty,pos,after,none⟩).run P w = .ok (.value (.bool true)) w:=by
    have e1 : a.eval x = .pointer (some ⟨b,off,none⟩):=hv
    have e2 : a.eval (.const (.pointer none)) = .pointer none:=rfl
    simp only [execOp,e1,e2]
    simp [eqGuard,binOp,run_neq_nilp (hT.und hu)]
  unfold Oper.wp
  rw [hrun]
  exact go
end
end Go.Abs

/-
  Lists of pointers with their families: what else is there is dropped.
-/
namespace Go.Abs
open Go

section
variable {P : Program} {mu : FuncId→Bool} {N : Nat} {Q : Exit→St→Prop} {st : St}
theorem awp_midN {c : Code} {id : Nat} (Mid : St→Prop) (h : awp P mu N c (blockA id (thenA Mid Q)) st) (hk : ∀ st,Mid st→Q .normal st) : awp P mu N c (blockA id Q) st :=
  awp_mono h fun e st' hh=>by
    cases e with
    | normal=>exact hk _ hh
    | exit i =>
      simp only [blockA] at hh ⊢
      split
      · rename_i e;rw [if_pos e] at hh;exact hk _ hh
      · rename_i e;rw [if_neg e] at hh;exact hh
    | _=>exact hh
end

theorem lvs3 {A B : Store} {x y x' y' x'' y'' : AVal} (h : LendV A B x y) (h' : LendV A B x' y') (h'' : LendV A B x'' y'') : LendVs A B [x,x',x''] [y,y',y'']:=⟨h,h',h'',trivial⟩

theorem lkS_skip {L r : SL} {q : Nm} (h : ∀ p ∈ L,p.1 ≠ q) : lkS (L ++ r) q = lkS r q:=by
  rw [lkS_app,lkS_none h]

theorem Weak.grp {fl fl' : FL} {L : SL} {m : Nm} {ob : AObj} {g : Nat→Nm} {os : List AObj} {S : Store} (hS : ∀ n b,S n = some b→b.cl S) (hg : ∀ i j,g i = g j→i = j) (hgm : ∀ i,g i ≠ m)
    (hL : ∀ p ∈ L,p.1.isOut = false∧p.1 ≠ m∧∀ i,p.1 ≠ g i) (hob : ∀ x ∈ ob.cls,∀ q,x.at q→∃ i,i < os.length∧q = g i) (hos : ∀ o ∈ os,o.nm0)
    (hf : FrzF (ov (L ++ (m,ob) :: famL g 0 os) (pushS S)) (ov ((m,ob) :: famL g 0 os) (pushS S)) fl fl') : Weak ⟨lk' fl,ov (L ++ (m,ob) :: famL g 0 os) (pushS S)⟩ ⟨lk' fl',ov ((m,ob) :: famL g 0 os) (pushS S)⟩:=by
  have hm : lkS (L ++ (m,ob) :: famL g 0 os) m = some ob:=by rw [lkS_skip fun p hp=>(hL p hp).2.1];exact lkS_hd
  have hgi : ∀ {sl : SL} i,(∀ p ∈ sl,p.1 ≠ m∧∀ i,p.1 ≠ g i)→lkS (sl ++ (m,ob) :: famL g 0 os) (g i) = os[i]?:=fun {sl} i h=>by
    rw [lkS_skip fun p hp=>(h p hp).2 i]
    simp only [lkS,if_neg (hgm i)]
    exact lkS_fam hg os i
  refine frzO hS (fun q=>?_) (frz_grp (ov_of hm) (fun x hx q hq=>?_) fun i o ho=>⟨ov_of ?_,hos o (List.mem_of_getElem? ho)⟩) hf
  · rw [lkS_skip fun p hp e=>?_]
    have:=(hL p hp).1
    rw [e] at this;cases this
  · obtain ⟨i,hi,rfl⟩:=hob x hx q hq
    refine ovNe (o:=os[i]) ?_
    have:=hgi (sl:=[]) i (by simp)
    rw [List.nil_append] at this
    rw [this,List.getElem?_eq_getElem hi]
  · rw [hgi i fun p hp=>(hL p hp).2];exact ho

theorem Weak.grpPut {fl fl' : FL} {L : SL} {m : Nm} {ob : AObj} {g : Nat→Nm} {os : List AObj} {S : Store} {j : Nat} {o : AObj} (hS : ∀ n b,S n = some b→b.cl S) (hg : ∀ i j,g i = g j→i = j) (hgm : ∀ i,g i ≠ m)
    (hL : ∀ p ∈ L,p.1.isOut = false∧p.1 ≠ m∧∀ i,p.1 ≠ g i) (hj : j < os.length) (hob : ∀ x ∈ ob.cls,∀ q,x.at q→∃ i,i < os.length∧q = g i) (hos : ∀ o ∈ os,o.nm0) (ho : o.nm0)
    (hf : FrzF (ov (L ++ (m,ob) :: famL g 0 (os.set j o)) (pushS S)) (ov ((m,ob) :: famL g 0 (os.set j o)) (pushS S)) fl fl') :
    Weak ⟨lk' fl,ov ((g j,o) :: (L ++ (m,ob) :: famL g 0 os)) (pushS S)⟩ ⟨lk' fl',ov ((m,ob) :: famL g 0 (os.set j o)) (pushS S)⟩:=by
  have e : ov ((g j,o) :: (L ++ (m,ob) :: famL g 0 os)) (pushS S) = ov (L ++ (m,ob) :: famL g 0 (os.set j o)) (pushS S):=by
    have:=fam_put hg (lits:=L ++ [(m,ob)]) (fun i=>lkS_none fun p hp=>by
      rcases List.mem_append.1 hp with h | h
      · exact (hL p h).2.2 i
      · simp only [List.mem_singleton] at h;subst h;exact fun e=>hgm i e.symm) hj o (pushS S)
    simpa only [List.append_assoc,List.cons_append,List.nil_append] using this
  rw [e]
  refine Weak.grp hS hg hgm hL (by rw [List.length_set];exact hob) (fun q hq=>?_) hf
  rcases List.mem_or_eq_of_mem_set hq with h | rfl
  · exact hos q h
  · exact ho
end Go.Abs

/-
  A window held against nil.
-/
namespace Go.Abs
open Go

section
variable {P : Program} {T : TT} {mu : FuncId→Bool} {N : Nat} {ops : Array Oper} {fl : FL} {S' : Store} {Q : Exit→St→Prop} {l : List Oper} {d : Nat} {ty : TypeId} {pos : String} {after : Array Edge}
theorem aw_winnil (hT : TOk P T) {op : BinOp} {x : Operand} {t t1 : TypeId} {e : TypeId} {m : Nm} {off len cm : Nat} (neg : Bool) (hl : 0 < len) (h : aw P mu N ops Q l ⟨lk' ((d,bvl neg) :: fl),S'⟩)
    (hop : op = (if neg then .neq else .eql):=by exact rfl) (hu : undT T t = some (.slice e):=by exact rfl) (hx : opO fl x = some (.c (.win m off len cm)):=by exact rfl) :
    aw P mu N ops Q (⟨some d,.binOp op t x (.const (.slice none 0 0)) t1,ty,pos,after,none⟩ :: l) ⟨lk' fl,S'⟩:=by
  intro hb B w ρ a hd hn hi
  refine wpList_step fun K hK=>?_
  have hv:=hi.sim.look x
  rw [opO_look hx] at hv
  obtain ⟨-,A,cap,hv,h1,h2,h3⟩:=hv
  obtain rfl:=(h3 (by omega)).1
  simp only [Region.wanted,if_true]
  have go : K (a.put (some d) (.bool neg)) w:=by
    have hdl : ∀ t,some d = some t→t < a.tmps.size:=fun t ht=>by rw [hn];exact hb _ List.mem_cons_self t ht
    have hs:=hi.sim.put (d:=some d) (v:=bvl neg) (u:=.bool neg) hi.sim.env (Ext.refl _ _ _) (lk' fl) (fun t=>.inr ⟨rfl,fun _ hX=>hX.elim⟩) hdl (rfl : Value.bool neg = .bool neg)
    rw [putF_lk] at hs
    exact hK _ _ (h (fun o ho=>hb o (by simp [ho])) B w ρ _ (by rw [put_defers];exact hd) (by rw [put_size];exact hn) (hi.step hs (Ext.refl _ _ _) (fun _ h=>h.elim)))
  have hrun : (execOp a.eval ⟨some d,.binOp op t x (.const (.slice none 0 0)) t1,ty,pos,after,none⟩).run P w = .ok (.value (.bool neg)) w:=by
    have e1 : a.eval x = .slice (some ⟨ρ m,off,none⟩) len cap:=hv
    have e2 : a.eval (.const (.slice none 0 0)) = .slice none 0 0:=rfl
    subst hop
    cases neg
    · simp only [execOp,e1,e2,if_false,Bool.false_eq_true]
      simp [eqGuard,binOp,run_eq_nil (hT.und hu)]
    · simp only [execOp,e1,e2,if_true]
      simp [eqGuard,binOp,run_eq_nil (hT.und hu)]
  unfold Oper.wp
  rw [hrun]
  exact go
end
end Go.Abs

/-
  A block renamed; a closure told as it stands.
-/
namespace Go.Abs
open Go

theorem Weak.ren1 {fl fl' : FL} {q d : Nat} {ob : AObj} {S : Store} (h0 : ob.nm0) (hfl : RenF [] (.loc q) (.loc d) (.fam (.loc 1000)) fl fl') : Weak ⟨lk' fl,ov [(.loc q,ob)] (pushS S)⟩ ⟨lk' fl',ov [(.loc d,ob)] (pushS S)⟩ :=
  Weak.renG (A:=[(.loc q,ob)]) (sl:=[]) (m0:=.loc q) (m1:=.loc d) (g0:=.fam (.loc 1000)) (g1:=.fam (.loc 1000)) (ob0:=ob) (ob1:=ob) (os:=[]) lkS_hd (fun i o h=>by simp at h) (fun φ _=>AObj.map_nm0 h0)
    (fun x hx r hr=>absurd hr (h0 x hx r)) (fam_inj _) (fun i e=>by cases e) (fun i j hi=>by simp at hi) (fun i hi=>by simp at hi) rfl (fun _=>rfl)
    (fun m hm=>by
      simp only [lkS] at hm
      split at hm
      · rename_i e;subst e;exact ⟨rfl,rfl⟩
      · exact absurd rfl hm) (fun n o h=>by simp [lkS] at h) hfl

theorem kFnP {A B : Store} {m : Nm} {ty : TypeId} {f : FuncId} {v : Value} (hm : A m = some (.cells ty [.sc v])) (hb : B m = none) : FrzV A B (.fn f [.ptr m 0]) (.fn f [.pim [.sc v]]) :=
  .fn rfl fun i x y h1 h2=>by
    match i with
    | 0 =>
      simp only [List.getElem?_cons_zero,Option.some.injEq] at h1 h2
      subst h1;subst h2
      have:=kP (A:=A) (B:=B) (m:=m) (off:=0) (ls:=[.sc v]) hm hb ⟨lS rfl,trivial⟩
      cases this with
      | c h=>exact h
    | i + 1=>simp at h1

theorem kFn1 {A B : Store} {f : FuncId} {cs : List Leaf} : FrzV A B (.fn f [.pim cs]) (.fn f [.pim cs]):=kFn fun x hx m hm=>by simp only [List.mem_singleton] at hx;subst hx;exact hm.elim

theorem set_build {r : List Int} {n i : Nat} (h : i < r.length) (hn : n = r.length) {x : Int} (hx : x = r.getD i 0) : (r.take i ++ List.replicate (n - i) 0).set i x = r.take (i + 1) ++ List.replicate (n - (i + 1)) 0:=by
  have e1 : n - i = (n - (i + 1)) + 1:=by omega
  have e2 : (r.take i).length = i:=by simp;omega
  rw [e1,List.replicate_succ,List.set_append_right _ _ (by omega),e2,Nat.sub_self,List.set_cons_zero,List.take_add_one,List.getElem?_eq_getElem h,Option.toList_some,List.append_assoc,List.singleton_append,hx,List.getD_eq_getElem?_getD,List.getElem?_eq_getElem h]
  rfl
theorem skip_build {r : List Int} {n i : Nat} (h : i < r.length) (hn : n = r.length) (hx : r.getD i 0 = 0) : r.take i ++ List.replicate (n - i) 0 = r.take (i + 1) ++ List.replicate (n - (i + 1)) 0:=by
  have e1 : n - i = (n - (i + 1)) + 1:=by omega
  rw [e1,List.replicate_succ,List.take_add_one,List.getElem?_eq_getElem h,Option.toList_some,List.append_assoc,List.singleton_append]
  rw [List.getD_eq_getElem?_getD,List.getElem?_eq_getElem h] at hx
  rw [show r[i] = 0 from hx]
end Go.Abs

/-
  Families made in a list of a known length.
-/
namespace Go.Abs
open Go

theorem fFamM {A B : Store} {g : Nat→Nm} : ∀ {os : List AObj} {s : Nat},(∀ j o,os[j]? = some o→∃ o0,A (g (s + j)) = some o0∧FrzO A B o0 o)→FrzS A B (famL g s os)
  | [],_,_=>trivial
  | o :: os,s,h=>⟨.inl (h 0 o rfl),fFamM (os:=os) (s:=s + 1) fun j o' hj=>by
      obtain ⟨o0,h1,h2⟩:=h (j + 1) o' (by simpa using hj)
      rw [show s + (j + 1) = s + 1 + j by omega] at h1
      exact ⟨o0,h1,h2⟩⟩

theorem set_ptrs {g : Nat→Nm} {n i : Nat} {y : Cell} (h : i < n) (x : Cell) : (ptrsG g i ++ List.replicate (n - i) y).set i x = ptrsG g i ++ x :: List.replicate (n - (i + 1)) y:=by
  rw [List.set_append_right _ _ (by rw [ptrsG_len];omega),ptrsG_len,Nat.sub_self,show n - i = (n - (i + 1)) + 1 by omega,List.replicate_succ,List.set_cons_zero]

theorem mkFam {fl fl' : FL} {A : SL} {S : Store} {b q d i n : Nat} {ty : TypeId} {o : AObj} {v : Value}
    (h0 : lkS A (.loc b) = some (.cells ty (ptrsG (.fam (.loc q)) i ++ .ptr (.loc d) 0 :: List.replicate (n - (i + 1)) (.sc v)))) (hd : lkS A (.loc d) = some o) (ho : o.nm0) (hf : ∀ j,j < i→lkS A (.fam (.loc q) j) = some o) (hbd : b ≠ d)
    (hA : ∀ m,lkS A (.out m) = none) (hfl : RenF [] (.loc b) (.loc b) (.fam (.loc q)) fl fl') :
    Weak ⟨lk' fl,ov A (pushS S)⟩ ⟨lk' fl',ov ((.loc b,.cells ty (ptrsG (.fam (.loc q)) (i + 1) ++ List.replicate (n - (i + 1)) (.sc v))) :: famL (.fam (.loc q)) 0 (List.replicate (i + 1) o)) (pushS S)⟩:=by
  have e : List.replicate (i + 1) o = List.replicate i o ++ [o]:=List.replicate_succ'
  rw [e]
  refine gathO0 (k:=i) h0 hd ho (fun j o' hj=>?_) (by simp) hbd (fun φ h1 h2=>?_) (fun x hx r hr=>?_) hA hfl
  · rw [List.getElem?_replicate] at hj
    split at hj
    · rename_i hji;obtain rfl:=Option.some.inj hj;exact ⟨hf j hji,ho⟩
    · cases hj
  · show AObj.cells ty (List.map (fun x : Cell=>x.map φ) (_ ++ _)) = _
    rw [List.map_append,ptrsG_map,List.map_replicate,ptrsG_succ,List.append_assoc,List.singleton_append,h2,ptrsG_congr h1]
    rfl
  · rcases List.mem_append.1 hx with h | h
    · obtain ⟨j,hj,rfl⟩:=ptrsG_mem h
      exact ⟨j,hj,hr.symm⟩
    · rw [(List.mem_replicate.1 h).2] at hr;exact hr.elim
end Go.Abs

/-
  Groups of blocks beside others; lists of pairs told as they stand.
-/
namespace Go.Abs
open Go

theorem FrzS_app {A B : Store} : ∀ {a b : SL},FrzS A B a→FrzS A B b→FrzS A B (a ++ b)
  | [],_,_,h=>h
  | _ :: _,_,h1,h2=>⟨h1.1,FrzS_app h1.2 h2⟩

theorem Weak.grpA {fl fl' : FL} {A K : SL} {m : Nm} {ob : AObj} {g : Nat→Nm} {os : List AObj} {S : Store} (hS : ∀ n b,S n = some b→b.cl S) (hg : ∀ i j,g i = g j→i = j) (hgm : ∀ i,g i ≠ m) (hout : ∀ q,lkS A (.out q) = none)
    (hmo : m.isOut = false) (hgo : ∀ i,(g i).isOut = false) (hK : ∀ p ∈ K,lkS A p.1 = some p.2∧p.2.nm0∧p.1.isOut = false∧p.1 ≠ m∧∀ i,p.1 ≠ g i) (hm : lkS A m = some ob) (hos : ∀ i o,os[i]? = some o→lkS A (g i) = some o∧o.nm0)
    (hob : ∀ x ∈ ob.cls,∀ q,x.at q→∃ i,i < os.length∧q = g i)
    (hf : FrzF (ov A (pushS S)) (ov (K ++ (m,ob) :: famL g 0 os) (pushS S)) fl fl') : Weak ⟨lk' fl,ov A (pushS S)⟩ ⟨lk' fl',ov (K ++ (m,ob) :: famL g 0 os) (pushS S)⟩:=by
  refine frzO hS (fun q=>?_) (FrzS_app ?_ (frz_grp (ov_of hm) (fun x hx q hq=>?_) fun i o ho=>⟨ov_of (hos i o ho).1,(hos i o ho).2⟩)) hf
  · rw [hout,lkS_skip fun p hp e=>?_]
    · simp only [lkS]
      rw [if_neg (fun e=>by rw [← e] at hmo;cases hmo)]
      exact lkS_famN (fun i e=>by have:=hgo i;rw [← e] at this;cases this) _ _
    · have:=(hK p hp).2.2.1
      rw [e] at this;cases this
  · have : ∀ {l : SL},(∀ p ∈ l,lkS A p.1 = some p.2∧p.2.nm0)→FrzS (ov A (pushS S)) (ov (K ++ (m,ob) :: famL g 0 os) (pushS S)) l:=by
      intro l
      induction l with
      | nil=>intro _;trivial
      | cons p l ih =>
        intro h
        exact ⟨.inl ⟨p.2,ov_of (h p List.mem_cons_self).1,FrzO.of_nm0 (h p List.mem_cons_self).2⟩,ih fun q hq=>h q (List.mem_cons_of_mem _ hq)⟩
    exact this fun p hp=>⟨(hK p hp).1,(hK p hp).2.1⟩
  · obtain ⟨i,hi,rfl⟩:=hob x hx q hq
    refine ovNe (o:=os[i]) ?_
    rw [lkS_skip fun p hp=>(hK p hp).2.2.2.2 i]
    simp only [lkS,if_neg (hgm i)]
    rw [lkS_fam hg,List.getElem?_eq_getElem hi]

theorem Weak.grp1 {fl fl' : FL} {k0 m : Nm} {o0 ob : AObj} {g : Nat→Nm} {os : List AObj} {S : Store} (hS : ∀ n b,S n = some b→b.cl S) (hg : ∀ i j,g i = g j→i = j) (hgm : ∀ i,g i ≠ m) (hko : k0.isOut = false) (hmo : m.isOut = false) (hgo : ∀ i,(g i).isOut = false)
    (hk0 : o0.nm0) (hkm : k0 ≠ m) (hkg : ∀ i,k0 ≠ g i) (hos : ∀ o ∈ os,o.nm0) (hob : ∀ x ∈ ob.cls,∀ q,x.at q→∃ i,i < os.length∧q = g i)
    (hf : FrzF (ov ((k0,o0) :: (m,ob) :: famL g 0 os) (pushS S)) (ov ((k0,o0) :: (m,ob) :: famL g 0 os) (pushS S)) fl fl') : Weak ⟨lk' fl,ov ((k0,o0) :: (m,ob) :: famL g 0 os) (pushS S)⟩ ⟨lk' fl',ov ((k0,o0) :: (m,ob) :: famL g 0 os) (pushS S)⟩:=by
  have hno : ∀ {n : Nm},n.isOut = false→∀ q,Nm.out q ≠ n:=fun h q e=>by rw [← e] at h;cases h
  refine Weak.grpA (K:=[(k0,o0)]) hS hg hgm (fun q=>?_) hmo hgo (fun p hp=>?_) ?_ (fun i o ho=>⟨?_,hos o (List.mem_of_getElem? ho)⟩) hob hf
  · simp only [lkS]
    rw [if_neg (hno hko q),if_neg (hno hmo q)]
    exact lkS_famN (fun i=>hno (hgo i) q) _ _
  · simp only [List.mem_singleton] at hp
    subst hp
    exact ⟨lkS_hd,hk0,hko,hkm,hkg⟩
  · exact lkS_tl (Ne.symm hkm) lkS_hd
  · simp only [lkS]
    rw [if_neg (Ne.symm (hkg i)),if_neg (hgm i),lkS_fam hg];exact ho

theorem kSeq2 {A B : Store} {m : Nm} {ty : TypeId} {a b c d : Cell} {a' b' c' d' : Leaf} {cm : Nat} (hm : A m = some (.cells ty [a,b,c,d])) (hb : B m = none) (h1 : FrzC0 A B a a'.cell) (h2 : FrzC0 A B b b'.cell) (h3 : FrzC0 A B c c'.cell) (h4 : FrzC0 A B d d'.cell) :
    FrzV A B (.c (.win m 0 2 cm)) (.c (.seq 2 [[a',b'],[c',d']])):=by
  refine .c (.base (.row (fun i j=>([a,b,c,d] : List Cell).getD (i * 2 + j) .junk) (ty:=ty) (cs:=[a,b,c,d]) (.inl hm) hb rfl (fun x hx=>by simp only [List.mem_cons,List.not_mem_nil,or_false] at hx;rcases hx with rfl | rfl <;> rfl) (fun i x j l hi hj=>?_) fun i x j l hi hj=>?_))
  · match i,hi with
    | 0,hi =>
      simp only [List.getElem?_cons_zero,Option.some.injEq] at hi
      subst hi
      match j,hj with
      | 0,_=>rfl
      | 1,_=>rfl
      | j + 2,hj=>simp at hj
    | 1,hi =>
      simp only [List.getElem?_cons_succ,List.getElem?_cons_zero,Option.some.injEq] at hi
      subst hi
      match j,hj with
      | 0,_=>rfl
      | 1,_=>rfl
      | j + 2,hj=>simp at hj
    | i + 2,hi=>simp at hi
  · match i,hi with
    | 0,hi =>
      simp only [List.getElem?_cons_zero,Option.some.injEq] at hi
      subst hi
      match j,hj with
      | 0,hj=>simp only [List.getElem?_cons_zero,Option.some.injEq] at hj;subst hj;exact h1
      | 1,hj=>simp only [List.getElem?_cons_succ,List.getElem?_cons_zero,Option.some.injEq] at hj;subst hj;exact h2
      | j + 2,hj=>simp at hj
    | 1,hi =>
      simp only [List.getElem?_cons_succ,List.getElem?_cons_zero,Option.some.injEq] at hi
      subst hi
      match j,hj with
      | 0,hj=>simp only [List.getElem?_cons_zero,Option.some.injEq] at hj;subst hj;exact h3
      | 1,hj=>simp only [List.getElem?_cons_succ,List.getElem?_cons_zero,Option.some.injEq] at hj;subst hj;exact h4
      | j + 2,hj=>simp at hj
    | i + 2,hi=>simp at hi
end Go.Abs

/-
  Types told out of the tables.
-/
namespace Go.Abs
open Go

def isAggD : TypeDesc→Bool
  | .struct _=>true
  | .array _ _=>true
  | _=>false
def tiOf (t u : TypeInfo) : TI:=⟨u.desc,t.size,t.bytes,isAggD u.desc,match t.zero with | some z=>z | none=>.bool false⟩

def notNamed : TypeDesc→Bool
  | .named _ _=>false
  | _=>true

theorem info_of {P : Program} {t : TypeId} {i : TypeInfo} (h : P.types[t]? = some i) : P.info? t = some i:=by
  have hlt:=(Array.getElem?_eq_some_iff.1 h).1
  show Tables.info? _ _ = _
  unfold Tables.info?
  rw [if_pos hlt];exact h

theorem tiOk1 {P : Program} {t : TypeId} {i u : TypeInfo} (hi : P.info? t = some i) (hu : P.underlying t = some u.desc) (hz : i.zero.isSome = true) : TIok P t (tiOf i u):=by
  refine ⟨hu,by simp [Program.cellsOf,hi,tiOf],by simp [Program.bytesOf,hi,tiOf],?_,?_⟩
  · simp only [aggT,hu,Option.map_some,tiOf,Option.some.injEq]
    cases u.desc <;> rfl
  · cases e : i.zero with
    | none=>rw [e] at hz;cases hz
    | some z=>simp [zeroOf,hi,tiOf,e]

theorem tiOk {P : Program} {t : TypeId} {i : TypeInfo} (h : P.types[t]? = some i) (hn : notNamed i.desc = true) (hz : i.zero.isSome = true) : TIok P t (tiOf i i):=by
  refine tiOk1 (info_of h) ?_ hz
  unfold Program.underlying
  rw [info_of h]
  obtain ⟨desc,_⟩:=i
  cases desc <;> first | rfl | cases hn

theorem tiOkN {P : Program} {t q : TypeId} {a : String} {i u : TypeInfo} (h : P.types[t]? = some i) (hn : i.desc = .named a q) (h2 : P.types[q]? = some u) (hz : i.zero.isSome = true) : TIok P t (tiOf i u):=by
  refine tiOk1 (info_of h) ?_ hz
  unfold Program.underlying
  rw [info_of h]
  obtain ⟨desc,_⟩:=i
  simp only at hn
  subst hn
  simp [info_of h2]
end Go.Abs
