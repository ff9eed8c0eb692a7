/-
  Contracts of functions: part Na (no statement by itself).
-/
import Derived.Test.YtdbjhcgogmfghaaGreatDoorMag
set_option linter.unusedVariables false
set_option linter.unusedSimpArgs false
set_option linter.unnecessarySimpa false

/- What else is wanted. -/
namespace Go.Abs
open Go

section
variable {P : Program} {T : TT} {mu : FuncId→Bool} {N : Nat} {ops : Array Oper} {fl : FL} {sl : SL} {S : Store} {K : St→Prop}
  {d : Nat} {ty : TypeId} {pos : String} {after : Array Edge}

theorem stp_appRC (hT : TOk P T) {s x : Operand} {tys : Array TypeId} {t e : TypeId} {as : Array Operand} {m : Nm} {sz : Nat} {cs : List Cell} {Y : List (List Cell)} {len cm : Nat} {xv : AVal} {z : Value} (ha : as.toList = [s,x]) (ht : tys.toList = [t,t]) (hu : undT T t = some (.slice e)) (hc1 : celT T e = sz) (hsz : 0 < sz)
    (hz : zerT T e = some z) (hzl : zlen z sz = true) (hs : opO fl s = some (.c (.win m 0 len cm))) (hx : opO fl x = some xv) (hm : lkS sl m = some (.cells e cs)) (hY : srcR (ov sl S) xv sz Y)
    (hl : len + Y.length ≤ cm∧(len + Y.length) * sz ≤ cs.length) (kk : K ⟨lk' ((d,.c (.win m 0 (len + Y.length) cm)) :: killL m fl),ov ((m,.cells e (spl cs (len * sz) Y.flatten)) :: sl) S⟩) :
    Stp P mu ops ⟨some d,.call ⟨.builtin .append,as,tys⟩,ty,pos,after,none⟩ ⟨lk' fl,ov sl S⟩ K:=by
  refine ⟨⟨putF (fun t=>killF m (lk' fl t)) (some d) (.c (.win m 0 (len + Y.length) cm)),upd (ov sl S) m (.cells e (spl cs (len * sz) Y.flatten))⟩,?_,by rw [killL_lk,putF_lk,upd_ov];exact kk⟩
  refine .inl ⟨d,.c (.win m 0 (len + Y.length) cm),m,_,rfl,rfl,?_,rfl⟩
  simp only [appE,ha,ht]
  refine ⟨trivial,e,sz,Y,z,hT.und hu,hT.cel hc1 (by omega),hsz,hT.zer hz,Nat.eq_of_beq_eq_true hzl,by rw [opO_look hx];exact hY,?_⟩
  rw [opO_look hs]
  exact ⟨rfl,hl.1,rfl,.inr ⟨cs,ov_of hm,hl.2,rfl⟩⟩

variable {Q : Exit→St→Prop} {st F : St}

end
end Go.Abs
namespace Go.Abs
open Go

section
variable {P : Program} {mu : FuncId→Bool} {ops : Array Oper}

variable {N : Nat} {Q : Exit→St→Prop} {st : St}

theorem resLS_spec {T : TT} (hT : TOk P T) {S : Store} {sl : SL} {fl : FL} : ∀ {rs : List ResultVar} {vs : List AVal},resLS T sl fl rs = some vs→ressE P ⟨lk' fl,ov sl S⟩ rs vs
  | [],vs,h=>by simp only [resLS,Option.some.injEq] at h;exact h.symm
  | .tmp t :: r,vs,h=>by
    simp only [resLS] at h
    split at h
    · rename_i v vs' h1 h2
      exact ⟨v,vs',(lkO_look h1).symm,resLS_spec hT h2,(Option.some.inj h).symm⟩
    · cases h
  | .cell a t :: r,vs,h=>by
    simp only [resLS] at h
    split at h
    · rename_i m off n vs' h1 h2 h3 h4
      split at h
      · rename_i ty cs h6
        split at h
        · rename_i h5
          have h5:=Nat.le_of_ble_eq_true h5
          have h3:=hT.cel h3 (by simp)
          refine ⟨_,vs',?_,resLS_spec hT h4,(Option.some.inj h).symm⟩
          simp only [resE]
          rw [lkO_look h1]
          exact ⟨_,ov_of h6,.inl ⟨hT.ag h2,by omega,ty,cs,rfl,by omega,by rw [h3]⟩⟩
        · cases h
      · cases h
    · rename_i cs n vs' h1 h2 h3 h4
      split at h
      · rename_i h5
        have h5:=Nat.le_of_ble_eq_true h5
        have h3:=hT.cel h3 (by simp)
        refine ⟨_,vs',?_,resLS_spec hT h4,(Option.some.inj h).symm⟩
        simp only [resE]
        rw [lkO_look h1]
        exact .inl ⟨hT.ag h2,by omega,by omega,by rw [h3]⟩
      · cases h
    · cases h

theorem afunT {f : FuncId} {fn : Func} {c : Code} {args : List AVal} {res : AVal} (hf : P.funcs[f]? = some fn) (hb : fn.body = some c) (hname : (fn.name == "runtime.NumGoroutine") = false)
    (hm : P.follows .mixedOrders = true) (hok : okC fn.ntmps mu c = true) (hl : args.length ≤ fn.ntmps) (ha : ∀ x ∈ args,nm0 x) (hr : nm0 res)
    (h : ∀ S,(∀ n b,S n = some b→b.cl S)→awp P mu fn.ntmps c (EndT P fn S res) ⟨lk' (entryL 0 args),ov [] (pushS S)⟩) : AFun P f args res:=by
  refine ⟨fun Φ=>acalls hf hb hname hm hok hl fun n S _ hn hnf hcl=>?_,hr,ha⟩
  refine awp_weak _ (entry_weak args S) ?_
  have e1 : args.map (·.map .out) = args:=by
    conv=>rhs;rw [← List.map_id args]
    exact List.map_congr_left fun x hx=>AVal.map_nm0 (ha x hx)
  rw [e1]
  refine awp_post (awp_mono (h S hcl) ?_)
  rintro e st ⟨he,T,fl,sl,vs,hT,hsl,h1,h2,h3,h4⟩
  have hne:=old_ne hn hnf
  refine ⟨_,h1,he,vs,fun _=>.new,resLS_spec hT h2,flatL_spec h3,fun _=>rfl,?_,fun m hm=>absurd hm (hr m),by rw [h4,AVal.map_nm0 hr]⟩
  refine ⟨fun m m' h1 h2 e=>?_,fun m o hm=>?_,fun m o hm=>hcl m o hm⟩
  · rw [if_neg (hne m h1),if_neg (hne m' h2)] at e;injection e
  · have hm' : S m = some o:=hm
    rw [map_old hne (hcl m o hm')]
    show ov sl (pushS S) _ = _
    have hlk : lkS sl (.out m) = none:=by rw [← outsL_lk,hsl];rfl
    simp only [ov,if_neg (hne m (by rw [hm'];simp)),hlk,pushS,hm']
    rfl

theorem endT {T : TT} (hT : TOk P T) {fn : Func} {S : Store} {res : AVal} {e : Exit} {fl : FL} {sl : SL} {vs : List AVal} (he : e = .normal ∨ e = .ret) (ho : outsL sl = [])
    (hr : resLS T sl fl fn.results.toList = some vs) (hfl : flatL vs = true) (h1 : oneR vs = res) : EndT P fn S res e ⟨lk' fl,ov sl (pushS S)⟩ :=
  ⟨he,T,fl,sl,vs,hT,ho,Weak.refl _,hr,hfl,h1⟩

theorem kWc {A B : Store} {m : Nm} {off len len' cm : Nat} {ty : TypeId} {k : IntKind} {L L' : List Int} (hm : A m = some (.ints ty k L)) (hb : B m = none) (hl : off + cm ≤ L.length) (e : (L.drop off).take cm = L') (h : len = len') :
    FrzV A B (.c (.win m off len cm)) (.c (.intc k L' len')):=by subst h;exact .c (.base (.winc hm hb hl e.symm))
end
end Go.Abs
namespace Go.Abs
open Go

section
variable {P : Program} {T : TT} {mu : FuncId→Bool} {N : Nat} {ops : Array Oper} {fl : FL} {sl : SL} {S : Store} {K : St→Prop}
  {d : Nat} {ty : TypeId} {pos : String} {after : Array Edge}

theorem za3 (hT : TOk P T) {t : TypeId} {x : Operand} {m : Nm} {off i n sz : Nat} {ty' : TypeId} {L : List (List Cell)} {c : List Cell} (kk : K ⟨lk' ((d,.agg c) :: fl),ov sl S⟩) (hc : L[i]? = some c) (hl : c.length = n + 1) (ho : off = i * sz) (hx : opO fl x = some (.accp m off):=by exact rfl)
    (ha : agT T t = some true:=by exact rfl) (hn : celT T t = n + 1:=by exact rfl) (hm : lkS sl m = some (.acc ty' sz L):=by exact lks) : Stp P mu ops ⟨some d,.load t x,ty,pos,after,none⟩ ⟨lk' fl,ov sl S⟩ K:=by
  refine ⟨_,⟨.agg c,ov sl S,⟨?_,rfl⟩,rfl⟩,by rw [putF_lk];exact kk⟩
  rw [opO_look hx]
  have hn:=hT.cel hn (by simp)
  exact ⟨ty',sz,L,i,0,c,ov_of hm,by omega,hc,.inl ⟨hT.ag ha,by omega,by omega,by rw [hn,← hl];simp⟩⟩
end
end Go.Abs
namespace Go.Abs
open Go
theorem kQc {A B : Store} {sz n : Nat} {L : List (List Leaf)} : FrzV A B (.c (.seqc sz L n)) (.c (.seqc sz L n)):=.c (.base (.keep (fun _ h=>h.elim)))
section
variable {P : Program} {T : TT} {mu : FuncId→Bool} {N : Nat} {ops : Array Oper} {fl : FL} {S' : Store} {K : St→Prop}
  {d : Nat} {ty : TypeId} {pos : String} {after : Array Edge} {x y : Operand} {t0 t1 : TypeId} {a b : Int} {k' : IntKind}
end
section
variable {P : Program} {T : TT} {mu : FuncId→Bool} {N : Nat} {ops : Array Oper} {fl : FL} {sl : SL} {S : Store} {K : St→Prop}
  {d : Nat} {ty : TypeId} {pos : String} {after : Array Edge}
end
end Go.Abs
