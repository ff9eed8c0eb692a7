/-
  An abstract machine for this program, and contracts of its functions: part Maf (no statement by itself).
-/
import Derived.Test.YtdbjhcgogmfghaaGreatDoorMae
set_option linter.unusedVariables false
set_option linter.unusedSimpArgs false
set_option linter.unnecessarySimpa false

/-
  Functions that hand out a new block, whatever they tell of it; functions that only read blocks; an append to a list of one's own that may move.
-/
namespace Go.Abs
open Go

structure AMade (P : Program) (f : FuncId) (args : List AVal) (res : Nm→AVal) (ob : AObj) : Prop where
  calls : ∀ Φ,ACalls P f args Φ res (fun n=>[(n,ob)])
  args0 : ∀ x ∈ args,nm0 x
  resM : ∀ (φ : Nm→Nm) n,(res n).map φ = res (φ n)
  resN : ∀ n m,(res n).at m→m = n
  ob0 : ob.nm0

structure ARead (P : Program) (f : FuncId) (args : List AVal) (pre : SL) (res : AVal) : Prop where
  calls : ∀ Φ,(∀ p ∈ pre,Φ p.1 = some p.2)→ACalls P f args Φ (fun _=>res) (fun _=>[])
  nmR : ∀ Φ,(∀ p ∈ pre,Φ p.1 = some p.2)→∀ q,res.at q→Rch Φ args q

section
variable {P : Program} {mu : FuncId→Bool}

theorem AProc.read {f : FuncId} {args : List AVal} {m : Nm} {o : AObj} {res : AVal} (h : AProc P f args [(m,o)] [(m,o)] res) (hm : ∃ x ∈ args,x.at m) : ARead P f args [(m,o)] res where
  nmR:=h.nmR
  calls Φ hΦ n S hag hn hnf w ρ vs he hgl hvs:=by
    have hS : S m = some o:=by rw [hag m (.of hm)];exact hΦ (m,o) (by simp)
    have e : updL S [(m,o)] = S:=by simp only [updL];exact upd_self hS
    have:=h.calls Φ hΦ n S hag hn hnf w ρ vs he hgl hvs
    rw [e] at this
    rcases this with h1 | ⟨v,-,-,hu⟩
    · exact .inl h1
    · cases hu

def EndG (P : Program) (fn : Func) (S : Store) (res : Nm→AVal) (ob : AObj) (e : Exit) (st : St) : Prop :=
  (e = .normal ∨ e = .ret)∧∃ T fl l vs,TOk P T∧l.isOut = false∧Weak st ⟨lk' fl,ov [(l,ob)] (pushS S)⟩∧resL T fl fn.results.toList = some vs∧flatL vs = true∧oneR vs = res l

theorem amade {f : FuncId} {fn : Func} {c : Code} {args : List AVal} {res : Nm→AVal} {ob : AObj} (hf : P.funcs[f]? = some fn) (hb : fn.body = some c) (hname : (fn.name == "runtime.NumGoroutine") = false)
    (hm : P.follows .mixedOrders = true) (hok : okC fn.ntmps mu c = true) (hl : args.length ≤ fn.ntmps) (ha : ∀ x ∈ args,nm0 x) (resM : ∀ (φ : Nm→Nm) n,(res n).map φ = res (φ n)) (resN : ∀ n m,(res n).at m→m = n) (ob0 : ob.nm0)
    (h : ∀ S,(∀ n b,S n = some b→b.cl S)→awp P mu fn.ntmps c (EndG P fn S res ob) ⟨lk' (entryL 0 args),ov [] (pushS S)⟩) : AMade P f args res ob:=by
  refine ⟨fun Φ=>acalls hf hb hname hm hok hl fun n S _ hn hnf hcl=>?_,ha,resM,resN,ob0⟩
  refine awp_weak _ (entry_weak args S) ?_
  have e1 : args.map (·.map .out) = args:=by
    conv=>rhs;rw [← List.map_id args]
    exact List.map_congr_left fun x hx=>AVal.map_nm0 (ha x hx)
  rw [e1]
  refine awp_post (awp_mono (h S hcl) ?_)
  rintro e st ⟨he,T,fl,l,vs,hT,hlo,h1,h2,h3,h4⟩
  exact ⟨_,h1,he,_,fun _=>l,resL_spec hT h2,flatL_spec h3,fun _=>hlo,back_new hlo ob0 hn hnf hcl,fun m hm=>by have : m = n:=resN n m hm;subst this;simp [updL,upd],by rw [h4,resM,if_pos (Nm.isNew_self n)]⟩

theorem endG {T : TT} (hT : TOk P T) {fn : Func} {S : Store} {res : Nm→AVal} {ob : AObj} {e : Exit} {fl fl' : FL} {sl : SL} {l : Nm} {vs : List AVal} (he : e = .normal ∨ e = .ret) (hS : ∀ n b,S n = some b→b.cl S) (hl : l.isOut = false) (ho : outsL sl = [])
    (hs : FrzS (ov sl (pushS S)) (ov [(l,ob)] (pushS S)) [(l,ob)]) (hf : FrzF (ov sl (pushS S)) (ov [(l,ob)] (pushS S)) fl fl')
    (hr : resL T fl' fn.results.toList = some vs) (hfl : flatL vs = true) (h1 : oneR vs = res l) : EndG P fn S res ob e ⟨lk' fl,ov sl (pushS S)⟩ :=
  ⟨he,T,fl',l,vs,hT,hl,frz hS (by rw [ho];cases l <;> first | rfl | cases hl) hs hf,hr,hfl,h1⟩

variable {T : TT} {N : Nat} {ops : Array Oper} {fl : FL} {sl : SL} {S : Store} {K : St→Prop} {Q : Exit→St→Prop} {l : List Oper} {d : Nat} {ty : TypeId} {pos : String} {after : Array Edge}

theorem s_made {f : FuncId} {as : Array Operand} {tys : Array TypeId} {xs args : List AVal} {res : Nm→AVal} {ob : AObj} (hc : AMade P f args res ob) (k : K ⟨lk' ((d,res (.loc d)) :: fl),ov ((.loc d,ob) :: sl) (pushS S)⟩) (hx : opsO fl as.toList = some xs:=by exact rfl)
    (hle : ALes xs args:=by repeat (first | exact trivial | refine ⟨ALe.refl _,?_⟩ | refine ⟨.inr (.inl ⟨_,rfl,rfl⟩),?_⟩)) (hf : freeO sl d = true:=by exact fro) :
    Stp P mu ops ⟨some d,.call ⟨.value (.func f),as,tys⟩,ty,pos,after,none⟩ ⟨lk' fl,ov sl (pushS S)⟩ K :=
  stp_call (hc.calls (ov sl (pushS S))) rfl hx (by simpa using hle) hf (fun _ _=>rfl)
    ⟨fun p hp=>.inl (by simp at hp;rw [hp];rfl),.inr (.inr ⟨d,_,rfl,rfl⟩),fun m hm=>.inl ⟨ob,by rw [hc.resN _ _ hm];simp⟩,
      fun p hp x hx m hm=>by
        simp at hp;subst hp
        exact absurd hm (hc.ob0 x hx m)⟩ k

theorem s_read {f : FuncId} {as : Array Operand} {tys : Array TypeId} {xs args : List AVal} {pre : SL} {res : AVal} (hc : ARead P f args pre res) (k : K ⟨lk' ((d,res) :: fl),ov sl (pushS S)⟩)
    (hpre : ∀ p ∈ pre,lkS sl p.1 = some p.2) (hx : opsO fl as.toList = some xs:=by exact rfl)
    (hle : ALes xs args:=by repeat (first | exact trivial | refine ⟨ALe.refl _,?_⟩ | refine ⟨.inr (.inl ⟨_,rfl,rfl⟩),?_⟩)) (hf : freeO sl d = true:=by exact fro) :
    Stp P mu ops ⟨some d,.call ⟨.value (.func f),as,tys⟩,ty,pos,after,none⟩ ⟨lk' fl,ov sl (pushS S)⟩ K :=
  stp_call (hc.calls (ov sl (pushS S)) fun p hp=>ov_of (hpre p hp)) rfl hx (by simpa using hle) hf (fun _ _=>rfl)
    ⟨by simp,.inl rfl,fun m hm=>.inr (hc.nmR _ (fun p hp=>ov_of (hpre p hp)) m hm),by simp⟩ k

/-! ### An append to a list of one's own -/
def kilV (q : Nat) : AVal→AVal
  | .c x=>match x.hasL q with | true=>.c .junk | false=>.c x
  | .agg cs=>match cs.any (Cell.hasL q) with | true=>.c .junk | false=>.agg cs
  | .fn f cs=>match cs.any (Cell.hasL q) with | true=>.c .junk | false=>.fn f cs
  | .accv m n=>match m.isLoc q with | true=>.c .junk | false=>.accv m n
  | .accp m n=>match m.isLoc q with | true=>.c .junk | false=>.accp m n
  | .tup _=>.c .junk

theorem kilV_cases (q : Nat) (x : AVal) : kilV q x = .c .junk ∨ (kilV q x = x∧∀ m,x.at m→m ≠ .loc q):=by
  cases x with
  | c x =>
    simp only [kilV]
    cases e : x.hasL q with
    | true=>exact .inl rfl
    | false=>exact .inr ⟨rfl,fun m hm=>Cell.hasL_f e hm⟩
  | agg cs =>
    simp only [kilV]
    cases e : cs.any (Cell.hasL q) with
    | true=>exact .inl rfl
    | false=>exact .inr ⟨rfl,fun m ⟨y,hy,hm⟩=>Cell.hasL_f (by simpa using List.any_eq_false.1 e y hy) hm⟩
  | fn f cs =>
    simp only [kilV]
    cases e : cs.any (Cell.hasL q) with
    | true=>exact .inl rfl
    | false=>exact .inr ⟨rfl,fun m ⟨y,hy,hm⟩=>Cell.hasL_f (by simpa using List.any_eq_false.1 e y hy) hm⟩
  | accv n k =>
    simp only [kilV]
    cases e : n.isLoc q with
    | true=>exact .inl rfl
    | false=>exact .inr ⟨rfl,fun m hm=>by rw [← show n = m from hm];exact Nm.isLoc_f e⟩
  | accp n k =>
    simp only [kilV]
    cases e : n.isLoc q with
    | true=>exact .inl rfl
    | false=>exact .inr ⟨rfl,fun m hm=>by rw [← show n = m from hm];exact Nm.isLoc_f e⟩
  | tup xs=>exact .inl rfl

theorem freeO_lk : ∀ {sl : SL} {d : Nat},freeO sl d = true→lkS sl (.loc d) = none:=by
  intro sl d h
  have:=freeO_spec (S:=fun _=>none) h
  simp only [ov] at this
  cases e : lkS sl (.loc d) with
  | none=>rfl
  | some o=>rw [e] at this;cases this

theorem kilV_fr {A B : Store} {fl : FL} {q : Nat} {w : World} {ρ : Nm→Nat} {tm : Array Value} (hs : ∀ t,VS w ρ A (lk' fl t) (tm.getD t undef)) (hBA : ∀ m,m ≠ .loc q→A m ≠ none→B m ≠ none) (t : Nat) :
    lk' (fl.map fun p=>(p.1,kilV q p.2)) t = .c .junk ∨ ((lk' (fl.map fun p=>(p.1,kilV q p.2)) t).cl B∧lk' fl t = lk' (fl.map fun p=>(p.1,kilV q p.2)) t∧∀ m,(lk' (fl.map fun p=>(p.1,kilV q p.2)) t).at m→m ≠ .loc q∧A m ≠ none):=by
  have hv:=(hs t).cl
  simp only [lk',lkO_map] at hv ⊢
  cases e : lkO fl t with
  | none=>exact .inl rfl
  | some v =>
    rw [e] at hv
    simp only [Option.map_some,Option.getD_some] at hv ⊢
    rcases kilV_cases q v with h | ⟨h1,h2⟩
    · exact .inl h
    · rw [h1];exact .inr ⟨fun m hm=>hBA m (h2 m hm) (hv m hm),rfl,fun m hm=>⟨h2 m hm,hv m hm⟩⟩

theorem Weak.dropq {q : Nat} (hn : noL q sl = true) : Weak ⟨lk' fl,ov sl (pushS S)⟩ ⟨lk' (fl.map fun p=>(p.1,kilV q p.2)),ov (delL q sl) (pushS S)⟩:=fun w ρ tm hs=>by
  have hcl:=hs.env.cl
  have hBq : ov (delL q sl) (pushS S) (.loc q) = none:=by simp [ov,delL_at,pushS]
  have hB : ∀ m,m ≠ .loc q→ov (delL q sl) (pushS S) m = ov sl (pushS S) m:=fun m h2=>by simp [ov,delL_ne q h2]
  refine (Weak.drop (st:=⟨lk' fl,ov sl (pushS S)⟩) (F:=⟨lk' (fl.map fun p=>(p.1,kilV q p.2)),ov (delL q sl) (pushS S)⟩) (fun m o hm=>?_) (fun m=>hB _ (fun e=>by cases e)) (fun t=>?_)) w ρ tm hs
  · have hmq : m ≠ .loc q:=fun h=>by
      subst h
      have h2 : ov (delL q sl) (pushS S) (.loc q) = some o:=hm
      rw [hBq] at h2;cases h2
    have hm2 : ov sl (pushS S) m = some o:=by rw [← hB m hmq];exact hm
    refine ⟨hm2,AObj.cl_cls.2 fun x hx r hr=>?_⟩
    have h5:=AObj.cl_cls.1 (hcl m _ hm2) x hx r hr
    have hrq : r ≠ .loc q:=by
      cases e3 : lkS sl m with
      | some o2 =>
        have : o2 = o:=by simp only [ov,e3] at hm2;exact Option.some.inj hm2
        rw [this] at e3
        exact Cell.hasL_f (noL_spec hn m _ e3 hmq x hx) hr
      | none =>
        simp only [ov,e3] at hm2
        obtain ⟨a,b,rfl,-,rfl⟩:=pushS_some hm2
        obtain ⟨z,hz,rfl⟩:=cls_map hx
        obtain ⟨n,hn,rfl⟩:=Cell.map_at hr
        exact fun h=>by cases h
    show ov (delL q sl) (pushS S) r ≠ none
    rw [hB r hrq];exact h5
  · rcases kilV_fr (A:=ov sl (pushS S)) (B:=ov (delL q sl) (pushS S)) (q:=q) hs.fr (fun m h1 h2=>by rw [hB m h1];exact h2) t with h | ⟨h1,h2,-⟩
    · exact .inl h
    · exact .inr ⟨h1,h2⟩

theorem Weak.renq {d q : Nat} {ob : AObj} (hob : ob.nm0) (hf : freeO sl d = true) (hdq : d ≠ q) (hn : noL q sl = true) (off len cm : Nat) :
    Weak ⟨lk' ((d,.c (.win (.loc q) off len cm)) :: fl),ov ((.loc q,ob) :: sl) (pushS S)⟩ ⟨lk' ((d,.c (.win (.loc d) off len cm)) :: fl.map fun p=>(p.1,kilV q p.2)),ov ((.loc d,ob) :: delL q sl) (pushS S)⟩:=fun w ρ tm hs=>by
  have hfd:=freeO_lk hf
  have hcl:=hs.env.cl
  have hA : ∀ m,m ≠ .loc q→ov ((.loc q,ob) :: sl) (pushS S) m = ov sl (pushS S) m:=fun m hm=>by simp [ov,lkS,hm]
  have hAd : ov ((.loc q,ob) :: sl) (pushS S) (.loc d) = none:=by simp [ov,lkS,hdq,hfd,pushS]
  have hAq : ov ((.loc q,ob) :: sl) (pushS S) (.loc q) = some ob:=by simp [ov,lkS]
  have hB : ∀ m,m ≠ .loc d→m ≠ .loc q→ov ((.loc d,ob) :: delL q sl) (pushS S) m = ov sl (pushS S) m:=fun m h1 h2=>by simp [ov,lkS,h1,delL_ne q h2]
  have hBq : ov ((.loc d,ob) :: delL q sl) (pushS S) (.loc q) = none:=by simp [ov,lkS,delL_at,pushS,Ne.symm hdq]
  have hBd : ov ((.loc d,ob) :: delL q sl) (pushS S) (.loc d) = some ob:=by simp [ov,lkS]
  obtain ⟨φ,hφ⟩ : ∃ φ : Nm→Nm,φ = fun m=>if m = .loc d then .loc q else m:=⟨_,rfl⟩
  have φd : φ (.loc d) = .loc q:=by rw [hφ];simp
  have φn : ∀ m,m ≠ .loc d→φ m = m:=fun m hm=>by rw [hφ];simp [hm]
  have hne : ∀ m,m ≠ .loc d→ov ((.loc d,ob) :: delL q sl) (pushS S) m ≠ none→m ≠ .loc q:=fun m _ h2 h=>by subst h;exact h2 hBq
  have key : ∀ m o,m ≠ .loc d→ov ((.loc d,ob) :: delL q sl) (pushS S) m = some o→∀ x ∈ o.cls,∀ r,x.at r→r ≠ .loc q∧r ≠ .loc d∧ov ((.loc d,ob) :: delL q sl) (pushS S) r ≠ none:=by
    intro m o h1 h2 x hx r hr
    have h3:=hne m h1 (by rw [h2];simp)
    have h6 : ov sl (pushS S) m = some o:=by rw [← hB m h1 h3];exact h2
    have h5 : ov ((.loc q,ob) :: sl) (pushS S) r ≠ none:=AObj.cl_cls.1 (hcl m _ (show ov ((.loc q,ob) :: sl) (pushS S) m = some o by rw [hA m h3];exact h6)) x hx r hr
    have hrd : r ≠ .loc d:=fun h=>by subst h;exact h5 hAd
    have hrq : r ≠ .loc q:=by
      cases e3 : lkS sl m with
      | some o2 =>
        have : o2 = o:=by simp only [ov,e3] at h6;exact Option.some.inj h6
        rw [this] at e3
        exact Cell.hasL_f (noL_spec hn m _ e3 h3 x hx) hr
      | none =>
        simp only [ov,e3] at h6
        obtain ⟨a,b,rfl,-,rfl⟩:=pushS_some h6
        obtain ⟨z,hz,rfl⟩:=cls_map hx
        obtain ⟨n,hn,rfl⟩:=Cell.map_at hr
        exact fun h=>by cases h
    exact ⟨hrq,hrd,by rw [hB r hrd hrq,← hA r hrq];exact h5⟩
  refine (Weak.back (st:=⟨lk' ((d,.c (.win (.loc q) off len cm)) :: fl),ov ((.loc q,ob) :: sl) (pushS S)⟩) (F:=⟨lk' ((d,.c (.win (.loc d) off len cm)) :: fl.map fun p=>(p.1,kilV q p.2)),ov ((.loc d,ob) :: delL q sl) (pushS S)⟩) φ
    ⟨fun m m' h1 h2 e=>?_,fun m o hm=>?_,fun m o hm=>?_⟩ (fun m=>φn _ (fun e=>by cases e)) (fun m h1 h2=>?_) (fun m=>?_) (fun t=>?_)) w ρ tm hs
  · have h1 : ov ((.loc d,ob) :: delL q sl) (pushS S) m ≠ none:=h1
    have h2 : ov ((.loc d,ob) :: delL q sl) (pushS S) m' ≠ none:=h2
    by_cases a : m = .loc d <;> by_cases b : m' = .loc d
    · rw [a,b]
    · subst a;rw [φd,φn m' b] at e;exact absurd e.symm (hne m' b h2)
    · subst b;rw [φd,φn m a] at e;exact absurd e (hne m a h1)
    · rw [φn m a,φn m' b] at e;exact e
  · have hm : ov ((.loc d,ob) :: delL q sl) (pushS S) m = some o:=hm
    by_cases a : m = .loc d
    · subst a
      rw [hBd] at hm
      obtain rfl:=Option.some.inj hm
      rw [φd,AObj.map_nm0 hob];exact hAq
    · have h3:=hne m a (by rw [hm];simp)
      rw [φn m a]
      have e1 : o.map φ = o:=by
        rw [AObj.map_congr (ψ:=id) fun x hx r hr=>φn r (key m o a hm x hx r hr).2.1,AObj.map_id]
      rw [e1]
      show ov ((.loc q,ob) :: sl) (pushS S) m = some o
      rw [hA m h3,← hB m a h3];exact hm
  · have hm : ov ((.loc d,ob) :: delL q sl) (pushS S) m = some o:=hm
    by_cases a : m = .loc d
    · subst a
      rw [hBd] at hm
      obtain rfl:=Option.some.inj hm
      exact AObj.cl_nm0 hob
    · exact AObj.cl_cls.2 fun x hx r hr=>(key m o a hm x hx r hr).2.2
  · by_cases a : m = .loc d
    · subst a;rw [φd] at h2;cases h2
    · exact φn m a
  · show ov ((.loc d,ob) :: delL q sl) (pushS S) (.out m) = ov ((.loc q,ob) :: sl) (pushS S) (.out m)
    rw [hB _ (fun e=>by cases e) (fun e=>by cases e),hA _ (fun e=>by cases e)]
  · by_cases a : d = t
    · subst a
      refine .inr ⟨fun m hm=>?_,?_⟩
      · have hm' : AVal.at m (AVal.c (.win (.loc d) off len cm)):=by simpa [lk',lkO,Nat.beq_refl] using hm
        have : (Nm.loc d) = m:=hm'
        subst this
        show ov ((.loc d,ob) :: delL q sl) (pushS S) (.loc d) ≠ none
        rw [hBd];simp
      · simp [lk',lkO,Nat.beq_refl,AVal.map,AVal.map1,Cell.map,φd]
    · have hbeq : Nat.beq d t = false:=by
        cases e : Nat.beq d t with
        | false=>rfl
        | true=>exact absurd (Nat.eq_of_beq_eq_true e) a
      have e1 : ∀ (v : AVal) (r : FL),lk' ((d,v) :: r) t = lk' r t:=fun v r=>by simp [lk',lkO,hbeq]
      have hs' : ∀ t,d ≠ t→VS w ρ (ov ((.loc q,ob) :: sl) (pushS S)) (lk' fl t) (tm.getD t undef):=fun t ht=>by
        have h0 : VS w ρ (ov ((.loc q,ob) :: sl) (pushS S)) (lk' ((d,AVal.c (.win (.loc q) off len cm)) :: fl) t) (tm.getD t undef):=hs.fr t
        have hb : Nat.beq d t = false:=by
          cases e : Nat.beq d t with
          | false=>rfl
          | true=>exact absurd (Nat.eq_of_beq_eq_true e) ht
        rwa [show lk' ((d,AVal.c (.win (.loc q) off len cm)) :: fl) t = lk' fl t by simp [lk',lkO,hb]] at h0
      have hv:=(hs' t a).cl
      show lk' ((d,AVal.c (.win (.loc d) off len cm)) :: fl.map fun p=>(p.1,kilV q p.2)) t = .c .junk ∨ _
      simp only [e1]
      simp only [lk',lkO_map] at hv ⊢
      cases e : lkO fl t with
      | none=>exact .inl rfl
      | some u =>
        rw [e] at hv
        simp only [Option.map_some,Option.getD_some] at hv ⊢
        rcases kilV_cases q u with h | ⟨h1,h2⟩
        · exact .inl h
        · rw [h1]
          have hmd : ∀ m,u.at m→m ≠ .loc d:=fun m hm h=>by subst h;exact hv _ hm hAd
          refine .inr ⟨fun m hm=>?_,?_⟩
          · show ov ((.loc d,ob) :: delL q sl) (pushS S) m ≠ none
            rw [hB m (hmd m hm) (h2 m hm),← hA m (h2 m hm)];exact hv m hm
          · rw [show u.map φ = u.map id from AVal.map_congr fun m hm=>φn m (hmd m hm),AVal.map_id]

theorem kilV_win {d q : Nat} (h : d ≠ q) (off len cm : Nat) : kilV q (.c (.win (.loc d) off len cm)) = .c (.win (.loc d) off len cm):=by
  have : Nat.beq d q = false:=by
    cases e : Nat.beq d q with
    | false=>rfl
    | true=>exact absurd (Nat.eq_of_beq_eq_true e) h
  simp [kilV,Cell.hasL,Nm.isLoc,this]

theorem aw_appOwn (hT : TOk P T) {s x : Operand} {tys : Array TypeId} {t e : TypeId} {as : Array Operand} {q : Nat} {k : IntKind} {L Y : List Int} {len cm : Nat} {xv : AVal}
    (h : aw P mu N ops Q l ⟨lk' ((d,.c (.win (.loc d) 0 (len + Y.length) (len + Y.length))) :: fl.map fun p=>(p.1,kilV q p.2)),ov ((.loc d,.ints e k (L.take len ++ Y)) :: delL q sl) (pushS S)⟩)
    (hY : srcE (ov sl (pushS S)) xv k Y) (hlen : 0 < cm∧len ≤ L.length∧0 < Y.length∧len + Y.length ≤ 17592186044416)
    (ha : as.toList = [s,x]:=by exact rfl) (ht : tys.toList = [t,t]:=by exact rfl) (hu : undT T t = some (.slice e):=by exact rfl) (hc1 : celT T e = 1:=by exact rfl)
    (hz : zerT T e = some (.int k 0):=by exact rfl) (hs : opO fl s = some (.c (.win (.loc q) 0 len cm)):=by exact rfl) (hx : opO fl x = some xv:=by exact rfl) (hm : lkS sl (.loc q) = some (.ints e k L):=by exact lks)
    (hf : freeO sl d = true:=by exact fro) (hn : noL q sl = true:=by first | exact rfl | simp [noL,Nm.isLoc,addL,delL]) (hb8 : bytT T e = some 8:=by exact rfl) :
    aw P mu N ops Q (⟨some d,.call ⟨.builtin .append,as,tys⟩,ty,pos,after,none⟩ :: l) ⟨lk' fl,ov sl (pushS S)⟩:=by
  intro hb B w ρ a hd hn' hi
  have hfd:=freeO_lk hf
  have hdq : d ≠ q:=fun h=>by subst h;rw [hfd] at hm;cases hm
  have hu:=hT.und hu
  have hc1:=hT.cel hc1 (by simp)
  have hz:=hT.zer hz
  have hb8:=hT.byt hb8
  refine wpList_step fun K hK=>?_
  simp only [Region.wanted,if_true]
  have ea : as = #[s,x]:=by rw [← Array.toList_inj];simpa using ha
  have et : tys = #[t,t]:=by rw [← Array.toList_inj];simpa using ht
  have hvs:=hi.sim.look s
  rw [opO_look hs] at hvs
  have hvx:=hi.sim.look x
  rw [opO_look hx] at hvx
  have hexec : ∀ {u w'},(Builtin.append_ #[t,t] ty #[a.eval s,a.eval x]).run P w = .ok u w'→(execOp a.eval ⟨some d,.call ⟨.builtin .append,as,tys⟩,ty,pos,after,none⟩).run P w = .ok (.value u) w':=by
    intro u w' hrun
    simp [execOp,resolve,ea,et,invoke,builtin,hrun]
  have hdl : ∀ t,some d = some t→t < a.tmps.size:=fun t ht=>by rw [hn'];exact hb _ List.mem_cons_self t ht
  have hS : ov sl (pushS S) (.loc q) = some (.ints e k L):=ov_of hm
  obtain ⟨-,A,cap,ev,q1,q2,q3⟩:=hvs
  rcases srcE_held hi.sim.env hvx hY with ⟨rfl,-⟩ | ⟨hYne,b,off,c,ex,hcell⟩
  · simp at hlen
  obtain ⟨rfl,ty2,sz,⟨cur2,g1,g2⟩,g3⟩:=q3 (by omega)
  obtain ⟨cur,f1,f2⟩:=hi.sim.env.obj (.loc q) _ hS
  rw [f1] at g1
  injection g1 with g1
  injection g1 with g1 g4
  subst g1 g4
  cases ei : P.info? e with
  | none=>simp [zeroOf,ei] at hz
  | some i =>
    have hz' : i.zero = some (.int k 0):=by simpa [zeroOf,ei] using hz
    have hsz : i.size = 1:=by simpa [Program.cellsOf,ei] using hc1
    have hby : i.bytes = 8:=by rw [← hb8];simp [Program.bytesOf,ei]
    have hsrc : ∀ j u,(Y.map (Value.int k))[j]? = some u→w.cell? ((⟨b,off,none⟩ : Addr).add j) = some u:=fun j u hj=>by rw [add_pl];exact hcell j u hj
    have hold : ∀ j y,j < len→L[j]? = some y→cur[j]? = some (Value.int k y):=fun j y _ hj=>f2 j y hj
    have hcur : len ≤ cur.size:=by omega
    unfold Oper.wp
    by_cases hroom : len + Y.length ≤ cap
    · have hrun:=run_append_room (P:=P) w t ty e i hu ei (ρ (.loc q)) len cap cur f1 ⟨b,off,none⟩ Y.length c (Y.map (Value.int k)) (by simp [hsz]) hsrc
        (fun u hu=>by simp at hu;obtain ⟨y,-,rfl⟩:=hu;rfl) hroom (by simp [hsz];omega)
      rw [hexec (by rw [ev,ex];exact hrun)]
      have hput:=Put.of_setRow f1 (cur.toList.take (len * i.size) ++ Y.map (Value.int k) ++ cur.toList.drop (len * i.size + (Y.map (Value.int k)).length)).toArray
      have hsize : (cur.toList.take (len * i.size) ++ Y.map (Value.int k) ++ cur.toList.drop (len * i.size + (Y.map (Value.int k)).length)).toArray.size = cur.size:=by
        simp [hsz];omega
      have hext:=hput.ext (o':=.ints e k (L.take len ++ Y)) hS rfl rfl f1 hsize
      have henv:=hput.env (o':=.ints e k (L.take len ++ Y)) hi.sim.env hS rfl rfl f1 hsize ⟨_,hput.at_,fun j y hj=>by
        simp only [hsz,Nat.mul_one,List.length_map,List.getElem?_toArray]
        rw [List.append_assoc]
        rcases Nat.lt_or_ge j len with h | h
        · rw [List.getElem?_append_left (by simp;omega),List.getElem?_take_of_lt h] at hj
          rw [List.getElem?_append_left (by simp;omega),List.getElem?_take_of_lt h]
          simpa using f2 j y hj
        · rw [List.getElem?_append_right (by simp;omega),List.length_take,Nat.min_eq_left (by omega)] at hj
          rw [List.getElem?_append_right (by simp;omega),List.length_take,Nat.min_eq_left (by simp;omega)]
          have h' : j - len < Y.length:=by
            rcases Nat.lt_or_ge (j - len) Y.length with g | g
            · exact g
            · rw [List.getElem?_eq_none g] at hj;cases hj
          rw [List.getElem?_append_left (by simpa using h'),List.getElem?_map,hj];rfl⟩
      have hval : VS _ ρ (upd (ov sl (pushS S)) (.loc q) (.ints e k (L.take len ++ Y))) (.c (.win (.loc q) 0 (len + Y.length) (len + Y.length))) (.slice (some ⟨ρ (.loc q),0,none⟩) (len + Y.length) cap) :=
        ⟨⟨_,upd_same _ _ _,rfl⟩,_,cap,rfl,Nat.le_refl _,hroom,fun _=>⟨rfl,e,_,⟨_,hput.at_,hsize⟩,by omega⟩⟩
      have hs1:=hi.sim.put (d:=some d) henv hext (lk' fl) (fun t=>.inr ⟨rfl,fun _ hX=>hX.elim⟩) hdl hval
      rw [putF_lk,upd_ov] at hs1
      rw [upd_ov] at hext
      have hi1:=hi.step hs1 hext (fun _ h=>h.elim)
      exact hK _ _ (aw_weak _ (Weak.renq (ob:=.ints e k (L.take len ++ Y)) ints_nm0 hf hdq hn 0 (len + Y.length) (len + Y.length)) h (fun o ho=>hb o (by simp [ho])) B _ ρ _ (by rw [put_defers];exact hd) (by rw [put_size];exact hn') hi1)
    · have hgrow : Builtin.nextslicecap (len + Y.length) cap * i.bytes ≤ 281474976710656:=growslice_fits (by omega) (by rw [hby];omega)
      have hlL : (L.take len).length = len:=by simp;omega
      have hrun:=run_append_grow (P:=P) w t ty e i (.int k 0) hu ei hz' ⟨ρ (.loc q),0,none⟩ len cap ((L.take len).map (Value.int k)) (by simp [hsz];omega)
        (fun j v hj=>by
          rw [add_pl,Nat.zero_add,cell_of_heap f1]
          rw [List.getElem?_map,Option.map_eq_some_iff] at hj
          obtain ⟨y,hy,rfl⟩:=hj
          have hjl : j < len:=by
            rcases Nat.lt_or_ge j len with g | g
            · exact g
            · rw [List.getElem?_eq_none (by omega)] at hy;cases hy
          rw [List.getElem?_take_of_lt hjl] at hy
          exact f2 j y hy) ⟨b,off,none⟩ Y.length c (Y.map (Value.int k)) (by simp [hsz]) hsrc (by omega) (by omega) hgrow
      rw [hexec (by rw [ev,ex];exact hrun)]
      have hcap:=grownCap_ge w (len + Y.length) cap e
      obtain ⟨G,hG⟩ : ∃ G,G = grownCap w (len + Y.length) cap e:=⟨_,rfl⟩
      rw [← hG] at hcap ⊢
      obtain ⟨vs,hvs⟩ : ∃ vs,vs = ((L.take len).map (Value.int k)).toArray ++ (Y.map (Value.int k)).toArray ++ Builtin.zeroCells (Value.int k 0).cells (G - (len + Y.length)):=⟨_,rfl⟩
      rw [← hvs]
      have hvsz : vs.size = G:=by
        have e1 : (Value.int k 0).cells.size = 1:=rfl
        rw [hvs];simp [size_zeroCells,e1];omega
      have hnew : New w (w.drew.alloc (.cells vs e)) (.loc d) (.cells vs e):=⟨rfl,rfl,rfl,by simp,fun b h=>heap_alloc_old w.drew _ h,heap_alloc_at w.drew _⟩
      have hSd : ov sl (pushS S) (.loc d) = none:=freeO_spec hf
      have hrow : RowS (w.drew.alloc (.cells vs e)) w.heap.size e k (L.take len ++ Y):=⟨vs,hnew.new,fun j y hj=>by
        rw [hvs,Array.getElem?_append_left (by
          have : j < (L.take len ++ Y).length:=by
            rcases Nat.lt_or_ge j (L.take len ++ Y).length with g | g
            · exact g
            · rw [List.getElem?_eq_none g] at hj;cases hj
          simp at this ⊢;omega)]
        rw [List.append_toArray,← List.map_append,List.getElem?_toArray,List.getElem?_map,hj];rfl⟩
      have hext:=hnew.ext hi.sim.env hSd (.ints e k (L.take len ++ Y))
      have henv:=hnew.env hi.sim.env hSd (ob:=.ints e k (L.take len ++ Y)) hrow
      have hval : VS (w.drew.alloc (.cells vs e)) (setN ρ (.loc d) w.heap.size) (upd (ov sl (pushS S)) (.loc d) (.ints e k (L.take len ++ Y))) (.c (.win (.loc d) 0 (len + Y.length) (len + Y.length))) (.slice (some ⟨w.heap.size,0,none⟩) (len + Y.length) G) :=
        ⟨⟨_,upd_same _ _ _,rfl⟩,_,G,rfl,Nat.le_refl _,hcap,fun _=>⟨by simp [setN],e,_,⟨vs,by simp only [setN,if_true];exact hnew.new,rfl⟩,by omega⟩⟩
      have hs1:=hi.sim.put (d:=some d) henv hext (lk' fl) (fun t=>.inr ⟨rfl,fun _ hX=>hX.elim⟩) hdl hval
      rw [putF_lk,upd_ov] at hs1
      rw [upd_ov] at hext
      have hi1:=hi.step hs1 hext (fun _ h=>h.elim)
      have hn2 : noL q ((.loc d,.ints e k (L.take len ++ Y)) :: sl) = true:=by simpa [noL] using hn
      have hw:=Weak.dropq (fl:=(d,.c (.win (.loc d) 0 (len + Y.length) (len + Y.length))) :: fl) (S:=S) hn2
      have e1 : delL q ((Nm.loc d,AObj.ints e k (L.take len ++ Y)) :: sl) = (.loc d,.ints e k (L.take len ++ Y)) :: delL q sl:=by
        have : Nat.beq d q = false:=by
          cases e : Nat.beq d q with
          | false=>rfl
          | true=>exact absurd (Nat.eq_of_beq_eq_true e) hdq
        simp [delL,Nm.isLoc,this]
      rw [e1,List.map_cons,kilV_win hdq] at hw
      exact hK _ _ (aw_weak _ hw h (fun o ho=>hb o (by simp [ho])) B _ _ _ (by rw [put_defers];exact hd) (by rw [put_size];exact hn') hi1)
end
end Go.Abs

/-
  Steps told in natural numbers.
-/
namespace Go.Abs
open Go

theorem nats_get (l : List Nat) (j : Nat) : (l.map fun n : Nat=>Int.ofNat n).getD j 0 = ((l.getD j 0 : Nat) : Int):=by
  rw [List.getD_eq_getElem?_getD,List.getD_eq_getElem?_getD,List.getElem?_map]
  cases l[j]? <;> rfl

section
variable {A B : Store}
theorem lW {m : Nm} {off len cm : Nat} {ty : TypeId} {k : IntKind} {L L' : List Int} (hm : A m = some (.ints ty k L)) (hb : B m = none) (hl : off + len ≤ L.length) (e : (L.drop off).take len = L') : FrzC0 A B (.win m off len cm) (.ints k L'):=.win hm hb hl e.symm
theorem kP2 {m : Nm} {off : Nat} {ty : TypeId} {cs r : List Cell} {x1 x2 : Cell} {l1 l2 : Leaf} (hm : A m = some (.cells ty cs)) (hb : B m = none) (hd : cs.drop off = x1 :: x2 :: r) (h1 : FrzC0 A B x1 l1.cell) (h2 : FrzC0 A B x2 l2.cell) :
    FrzV A B (.c (.ptr m off)) (.c (.pim [l1,l2])):=kP hm hb (by rw [hd];exact ⟨h1,h2,by cases r <;> exact True.intro⟩)
theorem kP3 {m : Nm} {off : Nat} {ty : TypeId} {cs r : List Cell} {x1 x2 x3 : Cell} {l1 l2 l3 : Leaf} (hm : A m = some (.cells ty cs)) (hb : B m = none) (hd : cs.drop off = x1 :: x2 :: x3 :: r) (h1 : FrzC0 A B x1 l1.cell) (h2 : FrzC0 A B x2 l2.cell) (h3 : FrzC0 A B x3 l3.cell) :
    FrzV A B (.c (.ptr m off)) (.c (.pim [l1,l2,l3])):=kP hm hb (by rw [hd];exact ⟨h1,h2,h3,by cases r <;> exact True.intro⟩)
end

section
variable {P : Program} {T : TT} {mu : FuncId→Bool} {N : Nat} {ops : Array Oper} {fl : FL} {sl : SL} {S S' : Store} {K : St→Prop}
  {d : Nat} {ty : TypeId} {pos : String} {after : Array Edge}

theorem zn1 {t e : TypeId} {x i : Operand} {k ki : IntKind} {l : List Nat} {j : Nat} (hT : TOk P T) (kk : K ⟨lk' ((d,.c (.pim [.sc (.int k ((l.getD j 0 : Nat) : Int))])) :: fl),S'⟩)
    (ht : undT T t = some (.slice e):=by exact rfl) (hc : celT T e = 1:=by exact rfl) (hx : opO fl x = some (.c (.ints k (l.map fun n : Nat=>Int.ofNat n))):=by exact rfl) (hi : opO fl i = some (ivl ki (j : Int)):=by exact rfl) (h : j < l.length:=by first | exact True.intro | omega | (simp only [and_true,List.length_map,List.length_replicate,List.length_set,List.length_append,List.length_cons,List.length_nil,List.length_take,List.length_drop] at *;omega)) :
    Stp P mu ops ⟨some d,.indexAddr t x i,ty,pos,after,none⟩ ⟨lk' fl,S'⟩ K:=by
  refine stp_pure hT true (v:=.c (.pim [.sc (.int k ((l.map fun n : Nat=>Int.ofNat n).getD (j : Int).toNat 0))])) (C:=0 ≤ (j : Int)∧(j : Int) < (l.map fun n : Nat=>Int.ofNat n).length) (by simp only [evP,evF,evP0,ht,hc,hx,hi]) ⟨by omega,by rw [List.length_map];omega⟩ ?_
  rw [nats_get];exact kk
theorem zn2 {t e : TypeId} {x i : Operand} {k ki : IntKind} {l : List Nat} {j : Int} (hT : TOk P T) (kk : K ⟨lk' ((d,.c (.pim [.sc (.int k ((l.getD j.toNat 0 : Nat) : Int))])) :: fl),S'⟩)
    (ht : undT T t = some (.slice e):=by exact rfl) (hc : celT T e = 1:=by exact rfl) (hx : opO fl x = some (.c (.ints k (l.map fun n : Nat=>Int.ofNat n))):=by exact rfl) (hi : opO fl i = some (ivl ki j):=by exact rfl) (h : 0 ≤ j∧j < l.length:=by first | exact True.intro | omega | (simp only [and_true,List.length_map,List.length_replicate,List.length_set,List.length_append,List.length_cons,List.length_nil,List.length_take,List.length_drop] at *;omega)) :
    Stp P mu ops ⟨some d,.indexAddr t x i,ty,pos,after,none⟩ ⟨lk' fl,S'⟩ K:=by
  refine stp_pure hT true (v:=.c (.pim [.sc (.int k ((l.map fun n : Nat=>Int.ofNat n).getD j.toNat 0))])) (C:=0 ≤ j∧j < (l.map fun n : Nat=>Int.ofNat n).length) (by simp only [evP,evF,evP0,ht,hc,hx,hi]) ⟨h.1,by rw [List.length_map];omega⟩ ?_
  rw [nats_get];exact kk
theorem zn3 {t e : TypeId} {x i : Operand} {ki : IntKind} {m : Nm} {len cm : Nat} {j : Nat} (hT : TOk P T) (kk : K ⟨lk' ((d,.c (.ptr m j)) :: fl),S'⟩)
    (ht : undT T t = some (.slice e):=by exact rfl) (hc : celT T e = 1:=by exact rfl) (hx : opO fl x = some (.c (.win m 0 len cm)):=by exact rfl) (hi : opO fl i = some (ivl ki (j : Int)):=by exact rfl) (h : j < len:=by first | exact True.intro | omega | (simp only [and_true,List.length_map,List.length_replicate,List.length_set,List.length_append,List.length_cons,List.length_nil,List.length_take,List.length_drop] at *;omega)) :
    Stp P mu ops ⟨some d,.indexAddr t x i,ty,pos,after,none⟩ ⟨lk' fl,S'⟩ K:=by
  refine stp_pure hT true (v:=.c (.ptr m (0 + (j : Int).toNat))) (C:=0 ≤ (j : Int)∧(j : Int) < len) (by simp only [evP,evF,evP0,ht,hc,hx,hi]) ⟨by omega,by omega⟩ ?_
  rw [Nat.zero_add];exact kk
theorem zn4 {t ty' : TypeId} {x : Operand} {k : IntKind} {m : Nm} {off : Nat} {l : List Nat} (hT : TOk P T) (kk : K ⟨lk' ((d,ivl k ((l.getD off 0 : Nat) : Int)) :: fl),ov sl S⟩)
    (hx : opO fl x = some (.c (.ptr m off)):=by exact rfl) (ha : agT T t = some false:=by exact rfl) (hm : lkS sl m = some (.ints ty' k (l.map fun n : Nat=>Int.ofNat n)):=by exact lks) (h : off < l.length:=by first | exact True.intro | omega | (simp only [and_true,List.length_map,List.length_replicate,List.length_set,List.length_append,List.length_cons,List.length_nil,List.length_take,List.length_drop] at *;omega)) :
    Stp P mu ops ⟨some d,.load t x,ty,pos,after,none⟩ ⟨lk' fl,ov sl S⟩ K:=by
  refine stp_load hT hx ha hm (y:=.sc (.int k ((l.map fun n : Nat=>Int.ofNat n).getD off 0))) (C:=off < (l.map fun n : Nat=>Int.ofNat n).length) rfl (by rw [List.length_map];exact h) ?_
  rw [nats_get];exact kk
theorem zn5 {t ty' : TypeId} {x y : Operand} {k : IntKind} {m : Nm} {off v : Nat} {l : List Nat} (hT : TOk P T) (kk : K ⟨lk' fl,ov ((m,.ints ty' k ((l.set off v).map fun n : Nat=>Int.ofNat n)) :: sl) S⟩)
    (hx : opO fl x = some (.c (.ptr m off)):=by exact rfl) (hy : opO fl y = some (ivl k (v : Int)):=by exact rfl) (hc : celT T t = 1:=by exact rfl) (hm : lkS sl m = some (.ints ty' k (l.map fun n : Nat=>Int.ofNat n)):=by exact lks) (h : off < l.length:=by first | exact True.intro | omega | (simp only [and_true,List.length_map,List.length_replicate,List.length_set,List.length_append,List.length_cons,List.length_nil,List.length_take,List.length_drop] at *;omega)) :
    Stp P mu ops ⟨none,.store t x y,ty,pos,after,none⟩ ⟨lk' fl,ov sl S⟩ K:=by
  refine stp_store hT hx hy hm (o':=.ints ty' k ((l.map fun n : Nat=>Int.ofNat n).set off (v : Int))) (C:=off < (l.map fun n : Nat=>Int.ofNat n).length) ?_ (by rw [List.length_map];exact h) ?_
  · cases k <;> simp [putO,hc,kEq]
  · rw [show (v : Int) = Int.ofNat v from rfl,← List.map_set];exact kk
theorem zn6 {t0 t1 : TypeId} {x y : Operand} {m n : Nat} (hT : TOk P T) (kk : K ⟨lk' ((d,ivl .u64 ((m + n : Nat) : Int)) :: fl),S'⟩) (hx : opO fl x = some (ivl .u64 (m : Int)):=by exact rfl) (hy : opO fl y = some (ivl .u64 (n : Int)):=by exact rfl) (h : m + n < 18446744073709551616:=by first | exact True.intro | omega | (simp only [and_true,List.length_map,List.length_replicate,List.length_set,List.length_append,List.length_cons,List.length_nil,List.length_take,List.length_drop] at *;omega)) :
    Stp P mu ops ⟨some d,.binOp .add t0 x y t1,ty,pos,after,none⟩ ⟨lk' fl,S'⟩ K:=by
  refine stp_pure hT true (v:=ivl .u64 ((m : Int) + n)) (C:=(0 ≤ (m : Int) + n∧(m : Int) + n < 18446744073709551616)∧True) (by simp only [evP,evF,evP0,hx,hy];rfl) ⟨⟨by omega,by omega⟩,trivial⟩ ?_
  rw [← Int.natCast_add];exact kk
theorem zn7 {t0 t1 : TypeId} {x y : Operand} {m n : Nat} (hT : TOk P T) (kk : K ⟨lk' ((d,ivl .u64 ((m - n : Nat) : Int)) :: fl),S'⟩) (hx : opO fl x = some (ivl .u64 (m : Int)):=by exact rfl) (hy : opO fl y = some (ivl .u64 (n : Int)):=by exact rfl) (h : n ≤ m∧m < 18446744073709551616:=by first | exact True.intro | omega | (simp only [and_true,List.length_map,List.length_replicate,List.length_set,List.length_append,List.length_cons,List.length_nil,List.length_take,List.length_drop] at *;omega)) :
    Stp P mu ops ⟨some d,.binOp .sub t0 x y t1,ty,pos,after,none⟩ ⟨lk' fl,S'⟩ K:=by
  refine stp_pure hT true (v:=ivl .u64 ((m : Int) - n)) (C:=(0 ≤ (m : Int) - n∧(m : Int) - n < 18446744073709551616)∧True) (by simp only [evP,evF,evP0,hx,hy];rfl) ⟨⟨by omega,by omega⟩,trivial⟩ ?_
  rw [← Int.natCast_sub h.1];exact kk
theorem zn8 {t0 t1 : TypeId} {x y : Operand} {m n : Nat} (hT : TOk P T) (kk : K ⟨lk' ((d,ivl .i64 ((m + n : Nat) : Int)) :: fl),S'⟩) (hx : opO fl x = some (ivl .i64 (m : Int)):=by exact rfl) (hy : opO fl y = some (ivl .i64 (n : Int)):=by exact rfl) (h : m + n < 9223372036854775808:=by first | exact True.intro | omega | (simp only [and_true,List.length_map,List.length_replicate,List.length_set,List.length_append,List.length_cons,List.length_nil,List.length_take,List.length_drop] at *;omega)) :
    Stp P mu ops ⟨some d,.binOp .add t0 x y t1,ty,pos,after,none⟩ ⟨lk' fl,S'⟩ K:=by
  refine stp_pure hT true (v:=ivl .i64 ((m : Int) + n)) (C:=(-9223372036854775808 ≤ (m : Int) + n∧(m : Int) + n < 9223372036854775808)∧True) (by simp only [evP,evF,evP0,hx,hy];rfl) ⟨⟨by omega,by omega⟩,trivial⟩ ?_
  rw [← Int.natCast_add];exact kk
theorem zn9 {t0 t1 : TypeId} {x y : Operand} {m n : Nat} (hT : TOk P T) (kk : K ⟨lk' ((d,ivl .u64 ((m * n : Nat) : Int)) :: fl),S'⟩) (hx : opO fl x = some (ivl .u64 (m : Int)):=by exact rfl) (hy : opO fl y = some (ivl .u64 (n : Int)):=by exact rfl) (h : m * n < 18446744073709551616:=by first | exact True.intro | omega | (simp only [and_true,List.length_map,List.length_replicate,List.length_set,List.length_append,List.length_cons,List.length_nil,List.length_take,List.length_drop] at *;omega)) :
    Stp P mu ops ⟨some d,.binOp .mul t0 x y t1,ty,pos,after,none⟩ ⟨lk' fl,S'⟩ K:=by
  refine stp_mulN m n hx hy rfl rfl h kk
theorem zn10 {t0 t1 : TypeId} {x y : Operand} {m n : Nat} (hT : TOk P T) (kk : K ⟨lk' ((d,ivl .i64 ((m / n : Nat) : Int)) :: fl),S'⟩) (hx : opO fl x = some (ivl .i64 (m : Int)):=by exact rfl) (hy : opO fl y = some (ivl .i64 (n : Int)):=by exact rfl) (h : m < 9223372036854775808∧n ≠ 0:=by first | exact True.intro | omega | (simp only [and_true,List.length_map,List.length_replicate,List.length_set,List.length_append,List.length_cons,List.length_nil,List.length_take,List.length_drop] at *;omega)) :
    Stp P mu ops ⟨some d,.binOp .quo t0 x y t1,ty,pos,after,none⟩ ⟨lk' fl,S'⟩ K:=by
  refine stp_of hx hy ?_ kk
  simp only [binE,isShift]
  have hle:=Nat.div_le_self m n
  refine ⟨trivial,show (n : Int) ≠ 0∧_ = ivl .i64 (IntKind.i64.wrap ((m : Int).tdiv n)) from ⟨by omega,?_⟩⟩
  rw [Int.tdiv_eq_ediv_of_nonneg (Int.natCast_nonneg _),← Int.natCast_ediv]
  have e : IntKind.i64.wrap ((m / n : Nat) : Int) = ((m / n : Nat) : Int):=by rw [IntKind.wrap_i64];generalize m / n = q at *;omega
  rw [e]
theorem zn11 {t0 t1 : TypeId} {x y : Operand} {m n : Nat} (hT : TOk P T) (kk : K ⟨lk' ((d,ivl .i64 ((m % n : Nat) : Int)) :: fl),S'⟩) (hx : opO fl x = some (ivl .i64 (m : Int)):=by exact rfl) (hy : opO fl y = some (ivl .i64 (n : Int)):=by exact rfl) (h : n ≠ 0:=by first | exact True.intro | omega | (simp only [and_true,List.length_map,List.length_replicate,List.length_set,List.length_append,List.length_cons,List.length_nil,List.length_take,List.length_drop] at *;omega)) :
    Stp P mu ops ⟨some d,.binOp .rem t0 x y t1,ty,pos,after,none⟩ ⟨lk' fl,S'⟩ K:=by
  refine stp_of hx hy ?_ kk
  simp only [binE,isShift]
  refine ⟨trivial,show (n : Int) ≠ 0∧_ = ivl .i64 ((m : Int).tmod n) from ⟨by omega,?_⟩⟩
  rw [Int.tmod_eq_emod_of_nonneg (Int.natCast_nonneg _),← Int.natCast_emod]
theorem zn12 {t e : TypeId} {x : Operand} {as : Array Operand} {tys : Array TypeId} {k : IntKind} {l : List Nat} (hT : TOk P T) (kk : K ⟨lk' ((d,ivl .i64 (l.length : Int)) :: fl),S'⟩)
    (ha : as.toList = [x]:=by exact rfl) (hb : tys.toList = [t]:=by exact rfl) (ht : undT T t = some (.slice e):=by exact rfl) (hx : opO fl x = some (.c (.ints k (l.map fun n : Nat=>Int.ofNat n))):=by exact rfl) :
    Stp P mu ops ⟨some d,.call ⟨.builtin .len,as,tys⟩,ty,pos,after,none⟩ ⟨lk' fl,S'⟩ K:=by
  refine stp_pure hT true (v:=ivl .i64 ((l.map fun n : Nat=>Int.ofNat n).length : Int)) (C:=True) (by simp only [evP,evF,evP0,ha,hb,ht,hx,lenF]) trivial ?_
  rw [List.length_map];exact kk
theorem s_makeA8 {t e : TypeId} {l c : Operand} {b : Nat} {ka kb k : IntKind} (hT : TOk P T) (kk : K ⟨lk' ((d,.accv (.loc d) b) :: fl),ov ((.loc d,.accI e k (List.replicate b 0)) :: sl) (pushS S)⟩) (hb : b ≤ 35184372088832)
    (ht : undT T t = some (.slice e):=by exact rfl) (hc1 : celT T e = 1:=by exact rfl) (hb8 : bytT T e = some 8:=by exact rfl) (hz : zerF T e = some [.sc (.int k 0)]:=by exact rfl)
    (hl : opO fl l = some (ivl ka (b : Int)):=by exact rfl) (hc : opO fl c = some (ivl kb (b : Int)):=by exact rfl) (hf : freeO sl d = true:=by exact fro) :
    Stp P mu ops ⟨some d,.makeSlice t l c,ty,pos,after,none⟩ ⟨lk' fl,ov sl (pushS S)⟩ K:=s_makeA (a:=(b : Int)) (b:=(b : Int)) hT rfl ⟨by omega,by omega,by omega⟩ (by rw [Int.toNat_natCast];exact kk) ht hc1 hb8 hz hl hc hf

theorem zc1 {t0 t1 : TypeId} {x : Operand} {m n : Nat} (hT : TOk P T) (kk : K ⟨lk' ((d,ivl .u64 ((m + (@OfNat.ofNat Nat n (instOfNatNat n)) : Nat) : Int)) :: fl),S'⟩) (hx : opO fl x = some (ivl .u64 (m : Int)):=by exact rfl) (h : m + (@OfNat.ofNat Nat n (instOfNatNat n)) < 18446744073709551616:=by first | exact True.intro | omega | (simp only [and_true,List.length_map,List.length_replicate,List.length_set,List.length_append,List.length_cons,List.length_nil,List.length_take,List.length_drop] at *;omega)) :
    Stp P mu ops ⟨some d,.binOp .add t0 x (.const (.int .u64 (@OfNat.ofNat Int n instOfNat))) t1,ty,pos,after,none⟩ ⟨lk' fl,S'⟩ K:=zn6 (m:=m) (n:=(@OfNat.ofNat Nat n (instOfNatNat n))) hT kk hx rfl h
theorem zc2 {t0 t1 : TypeId} {y : Operand} {m n : Nat} (hT : TOk P T) (kk : K ⟨lk' ((d,ivl .u64 (((@OfNat.ofNat Nat m (instOfNatNat m)) + n : Nat) : Int)) :: fl),S'⟩) (hy : opO fl y = some (ivl .u64 (n : Int)):=by exact rfl) (h : (@OfNat.ofNat Nat m (instOfNatNat m)) + n < 18446744073709551616:=by first | exact True.intro | omega | (simp only [and_true,List.length_map,List.length_replicate,List.length_set,List.length_append,List.length_cons,List.length_nil,List.length_take,List.length_drop] at *;omega)) :
    Stp P mu ops ⟨some d,.binOp .add t0 (.const (.int .u64 (@OfNat.ofNat Int m instOfNat))) y t1,ty,pos,after,none⟩ ⟨lk' fl,S'⟩ K:=zn6 (m:=(@OfNat.ofNat Nat m (instOfNatNat m))) (n:=n) hT kk rfl hy h
theorem zc3 {t0 t1 : TypeId} {x : Operand} {m n : Nat} (hT : TOk P T) (kk : K ⟨lk' ((d,ivl .i64 ((m + (@OfNat.ofNat Nat n (instOfNatNat n)) : Nat) : Int)) :: fl),S'⟩) (hx : opO fl x = some (ivl .i64 (m : Int)):=by exact rfl) (h : m + (@OfNat.ofNat Nat n (instOfNatNat n)) < 9223372036854775808:=by first | exact True.intro | omega | (simp only [and_true,List.length_map,List.length_replicate,List.length_set,List.length_append,List.length_cons,List.length_nil,List.length_take,List.length_drop] at *;omega)) :
    Stp P mu ops ⟨some d,.binOp .add t0 x (.const (.int .i64 (@OfNat.ofNat Int n instOfNat))) t1,ty,pos,after,none⟩ ⟨lk' fl,S'⟩ K:=zn8 (m:=m) (n:=(@OfNat.ofNat Nat n (instOfNatNat n))) hT kk hx rfl h
theorem zc4 {t0 t1 : TypeId} {y : Operand} {m n : Nat} (hT : TOk P T) (kk : K ⟨lk' ((d,ivl .u64 (((@OfNat.ofNat Nat m (instOfNatNat m)) - n : Nat) : Int)) :: fl),S'⟩) (hy : opO fl y = some (ivl .u64 (n : Int)):=by exact rfl) (h : n ≤ (@OfNat.ofNat Nat m (instOfNatNat m))∧(@OfNat.ofNat Nat m (instOfNatNat m)) < 18446744073709551616:=by first | exact True.intro | omega | (simp only [and_true,List.length_map,List.length_replicate,List.length_set,List.length_append,List.length_cons,List.length_nil,List.length_take,List.length_drop] at *;omega)) :
    Stp P mu ops ⟨some d,.binOp .sub t0 (.const (.int .u64 (@OfNat.ofNat Int m instOfNat))) y t1,ty,pos,after,none⟩ ⟨lk' fl,S'⟩ K:=zn7 (m:=(@OfNat.ofNat Nat m (instOfNatNat m))) (n:=n) hT kk rfl hy h
theorem zc5 {t0 t1 : TypeId} {x : Operand} {m n : Nat} (hT : TOk P T) (kk : K ⟨lk' ((d,ivl .u64 ((m - (@OfNat.ofNat Nat n (instOfNatNat n)) : Nat) : Int)) :: fl),S'⟩) (hx : opO fl x = some (ivl .u64 (m : Int)):=by exact rfl) (h : (@OfNat.ofNat Nat n (instOfNatNat n)) ≤ m∧m < 18446744073709551616:=by first | exact True.intro | omega | (simp only [and_true,List.length_map,List.length_replicate,List.length_set,List.length_append,List.length_cons,List.length_nil,List.length_take,List.length_drop] at *;omega)) :
    Stp P mu ops ⟨some d,.binOp .sub t0 x (.const (.int .u64 (@OfNat.ofNat Int n instOfNat))) t1,ty,pos,after,none⟩ ⟨lk' fl,S'⟩ K:=zn7 (m:=m) (n:=(@OfNat.ofNat Nat n (instOfNatNat n))) hT kk hx rfl h
theorem zc6 {t0 t1 : TypeId} {y : Operand} {m n : Nat} (hT : TOk P T) (kk : K ⟨lk' ((d,ivl .u64 (((@OfNat.ofNat Nat m (instOfNatNat m)) * n : Nat) : Int)) :: fl),S'⟩) (hy : opO fl y = some (ivl .u64 (n : Int)):=by exact rfl) (h : (@OfNat.ofNat Nat m (instOfNatNat m)) * n < 18446744073709551616:=by first | exact True.intro | omega | (simp only [and_true,List.length_map,List.length_replicate,List.length_set,List.length_append,List.length_cons,List.length_nil,List.length_take,List.length_drop] at *;omega)) :
    Stp P mu ops ⟨some d,.binOp .mul t0 (.const (.int .u64 (@OfNat.ofNat Int m instOfNat))) y t1,ty,pos,after,none⟩ ⟨lk' fl,S'⟩ K:=zn9 (m:=(@OfNat.ofNat Nat m (instOfNatNat m))) (n:=n) hT kk rfl hy h
theorem zc7 {t0 t1 : TypeId} {x : Operand} {m n : Nat} (hT : TOk P T) (kk : K ⟨lk' ((d,ivl .u64 ((m * (@OfNat.ofNat Nat n (instOfNatNat n)) : Nat) : Int)) :: fl),S'⟩) (hx : opO fl x = some (ivl .u64 (m : Int)):=by exact rfl) (h : m * (@OfNat.ofNat Nat n (instOfNatNat n)) < 18446744073709551616:=by first | exact True.intro | omega | (simp only [and_true,List.length_map,List.length_replicate,List.length_set,List.length_append,List.length_cons,List.length_nil,List.length_take,List.length_drop] at *;omega)) :
    Stp P mu ops ⟨some d,.binOp .mul t0 x (.const (.int .u64 (@OfNat.ofNat Int n instOfNat))) t1,ty,pos,after,none⟩ ⟨lk' fl,S'⟩ K:=zn9 (m:=m) (n:=(@OfNat.ofNat Nat n (instOfNatNat n))) hT kk hx rfl h
theorem zc8 {t0 t1 : TypeId} {x : Operand} {m n : Nat} (hT : TOk P T) (kk : K ⟨lk' ((d,ivl .u64 ((m % (@OfNat.ofNat Nat n (instOfNatNat n)) : Nat) : Int)) :: fl),S'⟩) (hx : opO fl x = some (ivl .u64 (m : Int)):=by exact rfl) (h : (@OfNat.ofNat Nat n (instOfNatNat n)) ≠ 0:=by first | exact True.intro | omega | (simp only [and_true,List.length_map,List.length_replicate,List.length_set,List.length_append,List.length_cons,List.length_nil,List.length_take,List.length_drop] at *;omega)) :
    Stp P mu ops ⟨some d,.binOp .rem t0 x (.const (.int .u64 (@OfNat.ofNat Int n instOfNat))) t1,ty,pos,after,none⟩ ⟨lk' fl,S'⟩ K:=zg6 (m:=m) (n:=(@OfNat.ofNat Nat n (instOfNatNat n))) hT kk hx rfl h
theorem zc9 {t0 t1 : TypeId} {x : Operand} {m n : Nat} (hT : TOk P T) (kk : K ⟨lk' ((d,ivl .u64 ((m / (@OfNat.ofNat Nat n (instOfNatNat n)) : Nat) : Int)) :: fl),S'⟩) (hx : opO fl x = some (ivl .u64 (m : Int)):=by exact rfl) (h : m < 18446744073709551616∧(@OfNat.ofNat Nat n (instOfNatNat n)) ≠ 0:=by first | exact True.intro | omega | (simp only [and_true,List.length_map,List.length_replicate,List.length_set,List.length_append,List.length_cons,List.length_nil,List.length_take,List.length_drop] at *;omega)) :
    Stp P mu ops ⟨some d,.binOp .quo t0 x (.const (.int .u64 (@OfNat.ofNat Int n instOfNat))) t1,ty,pos,after,none⟩ ⟨lk' fl,S'⟩ K:=zg5 (m:=m) (n:=(@OfNat.ofNat Nat n (instOfNatNat n))) hT kk hx rfl h
theorem zc10 {t0 t1 : TypeId} {x : Operand} {m n : Nat} (hT : TOk P T) (kk : K ⟨lk' ((d,ivl .i64 ((m % (@OfNat.ofNat Nat n (instOfNatNat n)) : Nat) : Int)) :: fl),S'⟩) (hx : opO fl x = some (ivl .i64 (m : Int)):=by exact rfl) (h : (@OfNat.ofNat Nat n (instOfNatNat n)) ≠ 0:=by first | exact True.intro | omega | (simp only [and_true,List.length_map,List.length_replicate,List.length_set,List.length_append,List.length_cons,List.length_nil,List.length_take,List.length_drop] at *;omega)) :
    Stp P mu ops ⟨some d,.binOp .rem t0 x (.const (.int .i64 (@OfNat.ofNat Int n instOfNat))) t1,ty,pos,after,none⟩ ⟨lk' fl,S'⟩ K:=zn11 (m:=m) (n:=(@OfNat.ofNat Nat n (instOfNatNat n))) hT kk hx rfl h
theorem zc11 {t0 t1 : TypeId} {x : Operand} {m n : Nat} (hT : TOk P T) (kk : K ⟨lk' ((d,ivl .i64 ((m / (@OfNat.ofNat Nat n (instOfNatNat n)) : Nat) : Int)) :: fl),S'⟩) (hx : opO fl x = some (ivl .i64 (m : Int)):=by exact rfl) (h : m < 9223372036854775808∧(@OfNat.ofNat Nat n (instOfNatNat n)) ≠ 0:=by first | exact True.intro | omega | (simp only [and_true,List.length_map,List.length_replicate,List.length_set,List.length_append,List.length_cons,List.length_nil,List.length_take,List.length_drop] at *;omega)) :
    Stp P mu ops ⟨some d,.binOp .quo t0 x (.const (.int .i64 (@OfNat.ofNat Int n instOfNat))) t1,ty,pos,after,none⟩ ⟨lk' fl,S'⟩ K:=zn10 (m:=m) (n:=(@OfNat.ofNat Nat n (instOfNatNat n))) hT kk hx rfl h
theorem zc12 {t0 t1 : TypeId} {y : Operand} {m n : Nat} (hT : TOk P T) (kk : K ⟨lk' ((d,ivl .u64 (((@OfNat.ofNat Nat m (instOfNatNat m)) / n : Nat) : Int)) :: fl),S'⟩) (hy : opO fl y = some (ivl .u64 (n : Int)):=by exact rfl) (h : (@OfNat.ofNat Nat m (instOfNatNat m)) < 18446744073709551616∧n ≠ 0:=by first | exact True.intro | omega | (simp only [and_true,List.length_map,List.length_replicate,List.length_set,List.length_append,List.length_cons,List.length_nil,List.length_take,List.length_drop] at *;omega)) :
    Stp P mu ops ⟨some d,.binOp .quo t0 (.const (.int .u64 (@OfNat.ofNat Int m instOfNat))) y t1,ty,pos,after,none⟩ ⟨lk' fl,S'⟩ K:=zg5 (m:=(@OfNat.ofNat Nat m (instOfNatNat m))) (n:=n) hT kk rfl hy h
end
end Go.Abs

/-
  A load ahead of a store into another block, in a region that draws its order; results that are read where they stand; lists with spare room that is known.
-/
namespace Go.Abs
open Go

section
variable {P : Program} {mu : FuncId→Bool} {ops : Array Oper}

def Sep (fr : Fram) (x y : Nat) : Prop:=(∃ cs,fr x = .c (.pim cs)) ∨ ∃ n off p off',fr x = .c (.ptr n off)∧fr y = .c (.ptr p off')∧n ≠ p

def LS (ops : Array Oper) (fr : Fram) (oi oj : Oper) : Prop :=
  oi.apart ops oj = true∧(∀ o ∈ ops.toList,∀ ti x tj y z,oi.op = .load ti (.tmp x)→oj.op = .store tj (.tmp y) z→o.dst ≠ some y) ∧
    ∃ ti x tj y z,oi.op = .load ti (.tmp x)∧oj.op = .store tj (.tmp y) z∧oi.guard = none∧oj.guard = none∧Sep fr x y

theorem eff_LS {fr : Fram} {S S1 S2 : Store} {oi oj : Oper} {vi vj : AVal} (h : LS ops fr oi oj) (hi : eff P mu fr S oi vi S1) (hj : eff P mu fr S1 oj vj S2) :
    ∃ S1',eff P mu fr S oj vj S1'∧eff P mu fr S1' oi vi S2:=by
  obtain ⟨-,-,ti,x,tj,y,z,e1,e2,-,-,hs⟩:=h
  unfold eff at hi hj ⊢
  rw [e1] at hi ⊢;rw [e2] at hj ⊢
  simp only [look] at hi hj ⊢
  obtain ⟨hl,rfl⟩:=hi
  refine ⟨S2,hj,?_,rfl⟩
  obtain ⟨hst,-⟩:=hj
  rcases hs with ⟨cs,q⟩ | ⟨n,off,p,off',q1,q2,hne⟩
  · rw [q] at hl ⊢;exact hl
  · rw [q1] at hl ⊢
    rw [q2] at hst
    have hk : S2 n = S1 n:=by
      rcases hst with ⟨_,_,_,_,_,_,_,rfl⟩ | ⟨_,_,_,_,_,_,_,_,rfl⟩ | ⟨_,_,_,_,_,_,_,_,rfl⟩ <;> exact upd_ne _ _ hne
    unfold loadE at hl ⊢
    simp only at hl ⊢
    rw [hk];exact hl

theorem swapLS {oi oj : Oper} {st st1 st2 : St} (h : LS ops st.fr oi oj) (hi : aStep P mu ops oi st st1) (hj : aStep P mu ops oj st1 st2) : ∃ st1',aStep P mu ops oj st st1'∧aStep P mu ops oi st1' st2:=by
  obtain ⟨h1,h2,h3⟩:=Oper.apart_spec h.1
  have h0:=h
  obtain ⟨-,-,ti,x,tj,y,z,e1,e2,g1,g2,-⟩:=h0
  have ni : ¬ isApp mu oi:=by unfold isApp;rw [e1];simp [kind]
  have nj : ¬ isApp mu oj:=by unfold isApp;rw [e2];simp [kind]
  obtain ⟨vi,S1,ri,rfl⟩:=(aStep_res ni).1 hi
  obtain ⟨vj,S2,rj,rfl⟩:=(aStep_res nj).1 hj
  rw [aRes_put h1] at rj
  have gd1 : gd ops st.fr oi = some true:=by unfold gd;rw [g1]
  have gd2 : gd ops st.fr oj = some true:=by unfold gd;rw [g2]
  have ei : eff P mu st.fr st.sg oi vi S1:=by rcases ri with q | ⟨q,-⟩;exact q.2;rw [gd1] at q;cases q
  have ej : eff P mu st.fr S1 oj vj S2:=by rcases rj with q | ⟨q,-⟩;exact q.2;rw [gd2] at q;cases q
  obtain ⟨S1',a,b⟩:=eff_LS h ei ej
  refine ⟨⟨putF st.fr oj.dst vj,S1'⟩,(aStep_res nj).2 ⟨vj,S1',.inl ⟨gd2,a⟩,rfl⟩,(aStep_res ni).2 ⟨vi,S2,(aRes_put h3).2 (.inl ⟨gd1,b⟩),?_⟩⟩
  simp only [St.mk.injEq,and_true]
  exact putF_comm h2

theorem LS.put {fr : Fram} {oi oj ok : Oper} {d : Option Nat} {v : AVal} (h : LS ops fr oi oj) (h1 : ∀ t,d = some t→t ∉ oi.looksAt ops) (h2 : ok ∈ ops.toList) (hd : ok.dst = d) : LS ops (putF fr d v) oi oj:=by
  obtain ⟨a,b,ti,x,tj,y,z,e1,e2,g1,g2,hs⟩:=h
  refine ⟨a,b,ti,x,tj,y,z,e1,e2,g1,g2,?_⟩
  have hx : putF fr d v x = fr x:=by
    have:=look_put (fr:=fr) (d:=d) (v:=v) (x:=.tmp x) (fun t ht e=>h1 t ht (by
      injection e with e;subst e
      exact List.mem_append_left _ (List.mem_filterMap.2 ⟨.tmp x,by rw [e1];simp [Op.operands],rfl⟩)))
    exact this
  have hy : putF fr d v y = fr y:=by
    have:=look_put (fr:=fr) (d:=d) (v:=v) (x:=.tmp y) (fun t ht e=>by
      injection e with e;subst e
      exact b ok h2 ti x tj y z e1 e2 (by rw [hd,ht]))
    exact this
  unfold Sep
  rw [hx,hy]
  exact hs

theorem aAny_first2 {Q : St→Prop} {i : Nat} {oi : Oper} (hi : ops[i]? = some oi) : ∀ (fuel : Nat) (listed : Array Bool) (st st1 : St),WF st.fr st.sg→DC ops listed →
    (∀ j oj,ops[j]? = some oj→j ≠ i→listed.getD j true = false→Wt ops j i ∨ (oi.apart ops oj = true∧kOk (kind mu oi.op) (kind mu oj.op) = true) ∨ LS ops st.fr oi oj) →
    i ∈ Region.ready .any ops listed→aStep P mu ops oi st st1→aAny P mu ops Q fuel (listed.setIfInBounds i true) st1→aAny P mu ops Q (fuel + 1) listed st:=by
  intro fuel
  induction fuel with
  | zero =>
    intro listed st st1 hw hdc hfree hr hs H
    refine ⟨fun h=>(by rw [h] at hr;cases hr),fun j hj oj hoj=>?_⟩
    by_cases hji : j = i
    · subst hji
      rw [hi] at hoj
      obtain rfl:=Option.some.inj hoj
      exact ⟨st1,hs,H⟩
    · have:=ready_mono hj hji
      rw [H.1] at this
      cases this
  | succ fuel ih =>
    intro listed st st1 hw hdc hfree hr hs H
    refine ⟨fun h=>(by rw [h] at hr;cases hr),fun j hj oj hoj=>?_⟩
    by_cases hji : j = i
    · subst hji
      rw [hi] at hoj
      obtain rfl:=Option.some.inj hoj
      exact ⟨st1,hs,H⟩
    · obtain ⟨st1j,hsj,Hj⟩:=H.2 j (ready_mono hj hji) oj hoj
      obtain ⟨hjun,oj',hoj',hall⟩:=mem_ready.1 hj
      rw [hoj] at hoj'
      obtain rfl:=Option.some.inj hoj'
      have hnw : ¬ Wt ops j i:=fun hq=>by
        have h1:=hq.listed hdc oj hoj hall
        have h0:=(mem_ready.1 hr).1
        rw [getD_true h1 true] at h0;cases h0
      have hc:=(hfree j oj hoj hji hjun).resolve_left hnw
      have hsw : ∃ stj,aStep P mu ops oj st stj∧aStep P mu ops oi stj st1j:=by
        rcases hc with ⟨hap,hkk⟩ | hls
        · exact swap hw hkk hap hs hsj
        · exact swapLS hls hs hsj
      have hap : oi.apart ops oj = true:=by rcases hc with ⟨hap,-⟩ | hls;exact hap;exact hls.1
      obtain ⟨stj,h1,h2⟩:=hsw
      have nj : ¬ isApp mu oj:=by
        rcases hc with ⟨-,hkk⟩ | ⟨-,-,ti,x,tj,y,z,-,e2,-⟩
        · intro e;unfold isApp at e;rw [e] at hkk;cases hq : kind mu oi.op <;> rw [hq] at hkk <;> simp [kOk] at hkk
        · unfold isApp;rw [e2];simp [kind]
      refine ⟨stj,h1,ih (listed.setIfInBounds j true) stj st1j (aStep_WF nj h1 hw) (hdc.set hj) (fun k ok hk hki hun=>?_) (ready_mono hr (Ne.symm hji)) h2 ?_⟩
      · have hk':=hfree k ok hk hki (by
          by_cases hjk : j = k
          · subst hjk;exact hjun
          · rw [getD_set_ne true hjk] at hun;exact hun)
        rcases hk' with q | q | q
        · exact .inl q
        · exact .inr (.inl q)
        · refine .inr (.inr ?_)
          obtain ⟨vj,Sj,-,rfl⟩:=(aStep_res nj).1 h1
          exact q.put (Oper.apart_spec hap).2.2 (Array.mem_toList_iff.2 (Array.mem_of_getElem? hoj)) rfl
      · rw [Array.setIfInBounds_comm _ _ hji]
        exact Hj

def aOpsC (P : Program) (mu : FuncId→Bool) (ops : Array Oper) (C : Nat→St→Prop) : Nat→List Oper→(St→Prop)→St→Prop
  | _,[],Q,st=>Q st
  | k,o :: rest,Q,st=>C k st∧∃ st',aStep P mu ops o st st'∧aOpsC P mu ops C (k + 1) rest Q st'

def lexOK2 (mu : FuncId→Bool) (ops : Array Oper) (i0 : Nat) (js : List Nat) : Bool :=
  let ms:=masks [] ops.toList
  (List.range ops.size).all fun i=>match ops[i]? with
    | none=>true
    | some oi=>(kind mu oi.op != .app) && (oi.after.toList.all fun e=>!Region.binds .any e || decide (e.on < i)) &&
      (List.range ops.size).all fun j=>decide (j ≤ i) || (ms.getD j 0).testBit i || (Nat.beq i i0 && js.elem j) || (match ops[j]? with | none=>true | some oj=>oi.apart ops oj && kOk (kind mu oi.op) (kind mu oj.op))

def lsC (ops : Array Oper) (i0 : Nat) (js : List Nat) (k : Nat) (st : St) : Prop:=k = i0→∀ j ∈ js,∀ oi oj,ops[i0]? = some oi→ops[j]? = some oj→LS ops st.fr oi oj

theorem aAny_lex2 {Q : St→Prop} {i0 : Nat} {js : List Nat} (hB : lexOK2 mu ops i0 js = true) : ∀ (l : List Oper) (k : Nat) (listed : Array Bool) (st : St),(∀ j,l[j]? = ops[k + j]?)→k + l.length = ops.size→WF st.fr st.sg→DC ops listed →
    (∀ j,listed.getD j true = false ↔ k ≤ j∧j < ops.size)→(∀ j,listed.getD j false = true ↔ j < k)→aOpsC P mu ops (lsC ops i0 js) k l Q st→aAny P mu ops Q l.length listed st
  | [],k,listed,st,hl,hlen,hw,hdc,h1,h2,h=>by
    refine ⟨?_,h⟩
    cases hq : Region.ready .any ops listed with
    | nil=>rfl
    | cons x xs =>
      have:=(mem_ready.1 (show x ∈ Region.ready .any ops listed by rw [hq];simp)).1
      have:=(h1 x).1 this
      simp at hlen
      omega
  | o :: l,k,listed,st,hl,hlen,hw,hdc,h1,h2,⟨hC,st',hs,h⟩=>by
    have h0 : ops[k]? = some o:=by simpa using (hl 0).symm
    simp only [List.length_cons] at hlen
    have hk : k < ops.size:=by omega
    have hB0:=hB
    unfold lexOK2 at hB
    simp only [List.all_eq_true,List.mem_range] at hB
    have hBk:=hB k hk
    rw [h0] at hBk
    simp only [Bool.and_eq_true,bne_iff_ne,ne_eq,List.all_eq_true,List.mem_range,Bool.or_eq_true,Bool.not_eq_true',decide_eq_true_eq] at hBk
    obtain ⟨⟨hna,hed⟩,hfr⟩:=hBk
    have hr : k ∈ Region.ready .any ops listed:=mem_ready.2 ⟨(h1 k).2 ⟨Nat.le_refl _,hk⟩,o,h0,fun e he hb=>(h2 _).2 (by
      rcases hed e (by simpa using he) with q | q
      · rw [hb] at q;cases q
      · exact q)⟩
    have g1 : ∀ j,(listed.setIfInBounds k true).getD j true = false ↔ k + 1 ≤ j∧j < ops.size:=fun j=>by
      have hsz:=hdc.1
      by_cases e : k = j
      · subst e
        simp [Array.getD_eq_getD_getElem?,show k < listed.size by omega]
        omega
      · rw [getD_set_ne true e,h1 j];omega
    have g2 : ∀ j,(listed.setIfInBounds k true).getD j false = true ↔ j < k + 1:=fun j=>by
      have hsz:=hdc.1
      by_cases e : k = j
      · subst e
        simp [Array.getD_eq_getD_getElem?,show k < listed.size by omega]
      · rw [getD_set_ne false e,h2 j];omega
    refine aAny_first2 h0 l.length listed st st' hw hdc (fun j oj hoj hjk hun=>?_) hr hs
      (aAny_lex2 hB0 l (k + 1) _ st' (fun j=>by have:=hl (j + 1);simpa [Nat.add_assoc,Nat.add_comm 1 j] using this) (by omega) (aStep_WF hna hs hw) (hdc.set hr) g1 g2 h)
    have hj:=(h1 j).1 hun
    rcases hfr j hj.2 with ((q | q) | q) | q
    · omega
    · exact .inl (masks_spec ops.toList [] (by simp) (fun j i hq=>by simp at hq) j k q)
    · have e : k = i0:=Nat.eq_of_beq_eq_true q.1
      exact .inr (.inr (hC e j (by simpa using q.2) o oj (by rw [← e];exact h0) hoj))
    · rw [hoj] at q
      simp only [Bool.and_eq_true] at q
      exact .inr (.inl q)

theorem aOpsC_none {C : Nat→St→Prop} : ∀ (l : List Oper) (k : Nat) {Q : St→Prop} {st : St},(∀ j st,k ≤ j→C j st)→aOps P mu ops l Q st→aOpsC P mu ops C k l Q st
  | [],_,_,_,_,h=>h
  | _ :: l,k,_,_,hC,⟨st',hs,h⟩=>⟨hC k _ (Nat.le_refl _),st',hs,aOpsC_none l (k + 1) (fun j st hj=>hC j st (by omega)) h⟩

theorem aOpsC_split {i0 : Nat} {C : Nat→St→Prop} (hC : ∀ j st,j ≠ i0→C j st) : ∀ (l : List Oper) (k : Nat),k ≤ i0→∀ {Q : St→Prop} {st : St},
    aOps P mu ops (l.take (i0 - k)) (fun st=>C i0 st∧aOps P mu ops (l.drop (i0 - k)) Q st) st→aOpsC P mu ops C k l Q st
  | [],k,hk,Q,st,h=>by simp only [List.take_nil,List.drop_nil] at h;exact h.2
  | o :: l,k,hk,Q,st,h=>by
    by_cases e : k = i0
    · subst e
      simp only [Nat.sub_self,List.take_zero,List.drop_zero] at h
      obtain ⟨h1,st',hs,h⟩:=h
      exact ⟨h1,st',hs,aOpsC_none l (k + 1) (fun j st hj=>hC j st (by omega)) h⟩
    · rw [show i0 - k = (i0 - (k + 1)) + 1 by omega,List.take_succ_cons,List.drop_succ_cons] at h
      obtain ⟨st',hs,h⟩:=h
      exact ⟨hC k _ e,st',hs,aOpsC_split hC l (k + 1) (by omega) h⟩

variable {N : Nat} {Q : Exit→St→Prop} {st : St}

theorem awp_ls {id : Nat} (i0 : Nat) (js : List Nat) (hB : lexOK2 mu ops i0 js = true)
    (h : aOps P mu ops (ops.toList.take i0) (fun st=>(∀ j ∈ js,∀ oi oj,ops[i0]? = some oi→ops[j]? = some oj→LS ops st.fr oi oj)∧aOps P mu ops (ops.toList.drop i0) (Q .normal) st) st) : awp P mu N (.region id ops true) Q st:=fun hm hok B w ρ a hd hn hi=>by
  simp only [okC,Bool.and_eq_true,List.all_eq_true,Bool.or_eq_true,Bool.not_eq_true'] at hok
  have hb : ∀ o ∈ ops.toList,∀ t,o.dst = some t→t < N:=fun o ho t ht=>by
    have:=hok.1 o ho
    rw [ht] at this
    simpa using this
  refine wp_region_any hm ?_
  have hi':=hi.heap (w':={ w with drawn:=w.drawn + 1 }) rfl rfl rfl rfl
  refine aAny_sound (mu:=mu) (fun o ho=>hb o (by simpa using ho)) _ _ st _ ρ a hd hn hi' ?_
  have hC : aOpsC P mu ops (lsC ops i0 js) 0 ops.toList (Q .normal) st:=aOpsC_split (fun j st hj e=>absurd e hj) ops.toList 0 (Nat.zero_le _) (by
    rw [Nat.sub_zero]
    refine aOps_mono ?_ _ h
    rintro st ⟨h1,h2⟩
    exact ⟨fun _=>h1,h2⟩)
  have:=aAny_lex2 hB ops.toList 0 (Array.replicate ops.size false) st (by simp) (by simp) hi.sim.wf ⟨by simp,fun k o ho hk=>by
    rcases Nat.lt_or_ge k ops.size with q | q
    · simp [Array.getD_eq_getD_getElem?,q] at hk
    · rw [Array.getElem?_eq_none q] at ho;cases ho⟩ (fun j=>by
    rcases Nat.lt_or_ge j ops.size with q | q
    · simp [Array.getD_eq_getD_getElem?,q]
    · simp [Array.getD_eq_getD_getElem?,Array.getElem?_eq_none (show (Array.replicate ops.size false).size ≤ j by simpa using q)];omega) (fun j=>by
    rcases Nat.lt_or_ge j ops.size with q | q
    · simp [Array.getD_eq_getD_getElem?,q]
    · simp [Array.getD_eq_getD_getElem?,Array.getElem?_eq_none (show (Array.replicate ops.size false).size ≤ j by simpa using q)]) hC
  simpa using this
where
  aOps_mono {Q Q' : St→Prop} (hq : ∀ st,Q st→Q' st) : ∀ (l : List Oper) {st : St},aOps P mu ops l Q st→aOps P mu ops l Q' st
    | [],_,h=>hq _ h
    | _ :: l,_,⟨st',hs,h⟩=>⟨st',hs,aOps_mono hq l h⟩

theorem ls_of {fl : FL} {S : Store} {oi oj : Oper} {ti tj : TypeId} {x y : Nat} {z : Operand} {n p : Nm} {off off' : Nat} (e1 : oi.op = .load ti (.tmp x)) (e2 : oj.op = .store tj (.tmp y) z) (g1 : oi.guard = none) (g2 : oj.guard = none)
    (ha : oi.apart ops oj = true) (hd : ∀ o ∈ ops.toList,o.dst ≠ some y) (hx : lkO fl x = some (.c (.ptr n off))) (hy : lkO fl y = some (.c (.ptr p off'))) (hne : n ≠ p) : LS ops (St.fr ⟨lk' fl,S⟩) oi oj:=by
  refine ⟨ha,fun o ho ti' x' tj' y' z' q1 q2=>?_,ti,x,tj,y,z,e1,e2,g1,g2,.inr ⟨n,off,p,off',lkO_look hx,lkO_look hy,hne⟩⟩
  rw [e2] at q2
  injection q2 with _ q2 _
  injection q2 with q2
  rw [← q2];exact hd o ho

/-! ### Results that are read where they stand -/
def resLS (T : TT) (sl : SL) (fl : FL) : List ResultVar→Option (List AVal)
  | []=>some []
  | .tmp t :: r=>match lkO fl t,resLS T sl fl r with
    | some v,some vs=>some (v :: vs)
    | _,_=>none
  | .cell a t :: r=>match lkO fl a,agT T t,celT T t,resLS T sl fl r with
    | some (.c (.ptr m off)),some true,n + 1,some vs=>match lkS sl m with
      | some (.cells _ cs)=>match Nat.ble (off + (n + 1)) cs.length with
        | true=>some (.agg ((cs.drop off).take (n + 1)) :: vs)
        | false=>none
      | _=>none
    | some (.c (.pim cs)),some true,n + 1,some vs=>match Nat.ble (n + 1) cs.length with
      | true=>some (.agg ((cs.take (n + 1)).map Leaf.cell) :: vs)
      | false=>none
    | _,_,_,_=>none

def EndT (P : Program) (fn : Func) (S : Store) (res : AVal) (e : Exit) (st : St) : Prop :=
  (e = .normal ∨ e = .ret)∧∃ T fl sl vs,TOk P T∧outsL sl = []∧Weak st ⟨lk' fl,ov sl (pushS S)⟩∧resLS T sl fl fn.results.toList = some vs∧flatL vs = true∧oneR vs = res

end
end Go.Abs

/-
  What is handed in to be read may be tracked: it is lent.
-/
namespace Go.Abs
open Go

inductive RchC (A : Store) (x : Cell) : Nm→Prop
  | base {m : Nm} (hm : x.at m) : RchC A x m
  | step {m q : Nm} {o : AObj} {c : Cell} (h : RchC A x m) (ho : A m = some o) (hc : c ∈ o.cls) (hq : c.at q) : RchC A x q
theorem RchC.up {A : Store} {x c : Cell} {m : Nm} {o : AObj} (hm : RchC A x m) (ho : A m = some o) (hc : c ∈ o.cls) {q : Nm} (h : RchC A c q) : RchC A x q:=by
  induction h with
  | base hq=>exact .step hm ho hc hq
  | step _ ho' hc' hq ih=>exact .step ih ho' hc' hq

theorem FrzC0.tr {A B A' B' : Store} {x y : Cell} (h : FrzC0 A B x y) : (∀ m,RchC A x m→A' m = A m∧(B m = none→B' m = none)∧(B m ≠ none→B' m ≠ none))→FrzC0 A' B' x y:=by
  induction h with
  | keep h=>intro hh;exact .keep fun m hm=>(hh m (.base hm)).2.2 (h m hm)
  | nilI=>intro _;exact .nilI
  | nilQ=>intro _;exact .nilQ
  | junk=>intro _;exact .junk
  | le h h0=>intro _;exact .le h h0
  | win hm hb hl e=>intro hh;obtain ⟨a,b,-⟩:=hh _ (.base rfl);exact .win (a.trans hm) (b hb) hl e
  | winc hm hb hl e=>intro hh;obtain ⟨a,b,-⟩:=hh _ (.base rfl);exact .winc (a.trans hm) (b hb) hl e
  | ptr f hm hb h1 h2 ih =>
    intro hh
    rename_i m off ty cs ls
    have h0 : RchC A (.ptr m off) m:=.base rfl
    obtain ⟨a,b,-⟩:=hh _ h0
    exact .ptr f (hm.imp a.trans a.trans) (b hb) h1 fun j l hj=>ih j l hj fun q hq=>hh q (hm.elim (fun hm=>RchC.up h0 hm (List.mem_of_getElem? (h1 j l hj)) hq) (fun hm=>RchC.up h0 hm (List.mem_of_getElem? (h1 j l hj)) hq))
  | row f hm hb hn hz h1 h2 ih =>
    intro hh
    rename_i m off len cm sz ty cs L
    have h0 : RchC A (.win m off len cm) m:=.base rfl
    obtain ⟨a,b,-⟩:=hh _ h0
    exact .row f (hm.imp a.trans a.trans) (b hb) hn hz h1 fun i c j l hi hj=>ih i c j l hi hj fun q hq=>hh q (hm.elim (fun hm=>RchC.up h0 hm (List.mem_of_getElem? (h1 i c j l hi hj)) hq) (fun hm=>RchC.up h0 hm (List.mem_of_getElem? (h1 i c j l hi hj)) hq))
  | rowc f hm hb hn hc hz h1 h2 ih =>
    intro hh
    rename_i m off len cm sz ty cs L
    have h0 : RchC A (.win m off len cm) m:=.base rfl
    obtain ⟨a,b,-⟩:=hh _ h0
    exact .rowc f (hm.imp a.trans a.trans) (b hb) hn hc hz h1 fun i c j l hi hj=>ih i c j l hi hj fun q hq=>hh q (hm.elim (fun hm=>RchC.up h0 hm (List.mem_of_getElem? (h1 i c j l hi hj)) hq) (fun hm=>RchC.up h0 hm (List.mem_of_getElem? (h1 i c j l hi hj)) hq))

inductive LendV (A B : Store) : AVal→AVal→Prop
  | c {x y : Cell} (h : FrzC0 A B x y) : LendV A B (.c x) (.c y)
  | agg {xs ys : List Cell} (hl : xs.length = ys.length) (h : ∀ (i : Nat) (x y : Cell),xs[i]? = some x→ys[i]? = some y→FrzC0 A B x y) : LendV A B (.agg xs) (.agg ys)
  | fn {f : FuncId} {xs ys : List Cell} (hl : xs.length = ys.length) (h : ∀ (i : Nat) (x y : Cell),xs[i]? = some x→ys[i]? = some y→FrzC0 A B x y) : LendV A B (.fn f xs) (.fn f ys)
def LendVs (A B : Store) : List AVal→List AVal→Prop
  | [],[]=>True
  | x :: xs,y :: ys=>LendV A B x y∧LendVs A B xs ys
  | _,_=>False

def lendS (w : World) (ρ : Nm→Nat) (S : Store) (pre : SL) (X : List Nm) : Store:=fun m =>
  if m ∈ X then none else if m ∈ pre.map Prod.fst then S m else match S m with
    | some o=>if o.real then some (.fix ((w.heap[ρ m]?).getD (.cells #[] 0 (0,0)))) else some o
    | none=>none

def Cell.noInt : Cell→Bool
  | .sc (.int _ _)=>false
  | .junk=>false
  | _=>true
def Cell.safe (b : Bool) : Cell→Bool
  | .sc _=>true
  | .fx _=>true
  | .ints _ _=>b
  | .intc _ _ _=>b
  | .win ..=>true
  | .ptr ..=>true
  | .junk=>true
  | _=>false
def AVal.safe1 (b : Bool) : AVal→Bool
  | .c x=>x.safe b
  | .agg cs=>cs.all (Cell.safe b)
  | .fn _ cs=>cs.all (Cell.safe b)
  | .accv _ _=>true
  | .accp _ _=>true
  | .tup _=>false
def AVal.safe (b : Bool) : AVal→Bool
  | .tup xs=>xs.all (AVal.safe1 b)
  | x=>x.safe1 b

section
variable {P : Program} {w w' : World} {ρ ρ' : Nm→Nat} {S : Store} {pre : SL} {X : List Nm}

theorem lendS_dom {m : Nm} (hm : m ∉ X) : lendS w ρ S pre X m = none ↔ S m = none:=by
  unfold lendS
  rw [if_neg hm]
  split
  · exact Iff.rfl
  · cases e : S m with
    | none=>simp
    | some o=>simp only;split <;> simp
theorem lendS_real {m : Nm} {o : AObj} (h : lendS w ρ S pre X m = some o) (hr : o.real = true) : ∃ o',S m = some o'∧o'.real = true∧m ∉ X:=by
  unfold lendS at h
  split at h
  · cases h
  · rename_i hx
    split at h
    · exact ⟨o,h,hr,hx⟩
    · cases e : S m with
      | none=>rw [e] at h;cases h
      | some o' =>
        rw [e] at h
        simp only at h
        split at h
        · rename_i q;exact ⟨o',rfl,q,hx⟩
        · obtain rfl:=Option.some.inj h;exact ⟨_,rfl,hr,hx⟩
theorem lendS_kp {m : Nm} {o : AObj} (h : S m = some o) (hx : m ∉ X) : ∃ o',lendS w ρ S pre X m = some o'∧o'.real = o.real∧(o.isAcc = false→o'.isAcc = false):=by
  unfold lendS
  rw [if_neg hx]
  split
  · exact ⟨o,h,rfl,fun h=>h⟩
  · rw [h]
    simp only
    split
    · rename_i q;exact ⟨_,rfl,by rw [q];rfl,fun _=>rfl⟩
    · exact ⟨o,rfl,rfl,fun h=>h⟩

theorem lend_seen (he : EnvS w ρ S) : Seen w ρ S (lendS w ρ S pre X) where
  fr {b} hb:=⟨hb.1,fun m o hm hr=>by obtain ⟨o',h1,h2,-⟩:=lendS_real hm hr;exact hb.2 m o' h1 h2⟩
  gone {m o} hm hr hb:=⟨he.lt hm hr,fun m' o' hm' hr' e=>by
    obtain ⟨o1,h1,h2,-⟩:=lendS_real hm' hr'
    have:=he.inj m' m o1 o h1 hm h2 hr e
    subst this
    rw [hb] at hm';cases hm'⟩
  kp {m o} hm ha hb:=by
    have hx : m ∉ X:=fun h=>hb (by unfold lendS;rw [if_pos h])
    obtain ⟨o',h1,-,h3⟩:=lendS_kp (w:=w) (ρ:=ρ) (pre:=pre) hm hx
    exact ⟨o',h1,h3 ha⟩

theorem lend_env (he : EnvS w ρ S) (hpre : ∀ m ∈ pre.map Prod.fst,∀ o,S m = some o→∀ x ∈ o.cls,∀ q,x.at q→q ∉ X) : EnvS w ρ (lendS w ρ S pre X) where
  inj m m' o o' h1 h2 r1 r2 e:=by
    obtain ⟨a,a1,a2,-⟩:=lendS_real h1 r1
    obtain ⟨b,b1,b2,-⟩:=lendS_real h2 r2
    exact he.inj m m' a b a1 b1 a2 b2 e
  obj m o hm:=by
    have hs:=lend_seen (pre:=pre) (X:=X) he
    have h0:=hm
    unfold lendS at h0
    split at h0
    · cases h0
    · rename_i hx
      split at h0
      · rename_i hz
        have ho:=he.obj m o h0
        have keep : ∀ x ∈ o.cls,∀ {u : Value},CellS w ρ S x u→CellS w ρ (lendS w ρ S pre X) x u:=fun x hxm u hu =>
          FrzC0.heldS hs he (.keep fun q hq=>fun e=>by
            have hq1:=hpre m hz o h0 x hxm q hq
            have:=(lendS_dom (w:=w) (ρ:=ρ) (S:=S) (pre:=pre) hq1).1 e
            exact AObj.cl_cls.1 (he.cl m o h0) x hxm q hq this) hu
        cases o with
        | ints ty k L=>exact ho
        | fix x=>exact ho
        | row ty cs =>
          obtain ⟨vs,q1,q2⟩:=ho
          refine ⟨vs,q1,fun i x hi=>?_⟩
          obtain ⟨u,p1,p2,p3⟩:=q2 i x hi
          exact ⟨u,p1,p2,keep x (List.mem_of_getElem? hi) p3⟩
        | cells ty cs =>
          obtain ⟨vs,q1,q0,q2⟩:=ho
          refine ⟨vs,q1,q0,fun i x hi=>?_⟩
          obtain ⟨u,p1,p2,p3⟩:=q2 i x hi
          exact ⟨u,p1,p2,keep x (List.mem_of_getElem? hi) p3⟩
        | acc ty sz L =>
          rcases ho with ho | ⟨vs,q1,q0,q2⟩
          · exact .inl ho
          · refine .inr ⟨vs,q1,q0,fun i c j x hi hj=>?_⟩
            obtain ⟨u,p1,p2,p3⟩:=q2 i c j x hi hj
            exact ⟨u,p1,p2,keep x (List.mem_flatten.2 ⟨c,List.mem_of_getElem? hi,List.mem_of_getElem? hj⟩) p3⟩
      · cases e : S m with
        | none=>rw [e] at h0;cases h0
        | some o' =>
          rw [e] at h0
          simp only at h0
          split at h0
          · rename_i hr
            obtain rfl:=Option.some.inj h0
            have hlt:=he.lt e hr
            show w.heap[ρ m]? = some _
            rw [Array.getElem?_eq_getElem hlt];rfl
          · rename_i hr
            obtain rfl:=Option.some.inj h0
            cases o' with
            | acc ty sz L=>cases L with | nil=>exact .inl rfl | cons a l=>exact absurd rfl hr
            | ints ty k L=>exact absurd rfl hr
            | cells ty cs=>exact absurd rfl hr
            | fix x=>exact absurd rfl hr
            | row ty cs=>exact absurd rfl hr

theorem noInt_val {c : Cell} {u : Value} (h : c.noInt = true) (hc : CellS w ρ S c u) : ∀ k n,u ≠ .int k n:=by
  intro k n e
  subst e
  cases c with
  | sc v=>have : Value.int k n = v:=hc;subst this;cases h
  | ints k L=>obtain ⟨A,cap,q,_⟩:=hc;cases q
  | intc k L n=>obtain ⟨A,cap,q,_⟩:=hc;cases q
  | seq sz L=>obtain ⟨A,cap,q,_⟩:=hc;cases q
  | seqc sz L n=>obtain ⟨A,cap,q,_⟩:=hc;cases q
  | win m off len cm=>obtain ⟨_,A,cap,q,_⟩:=hc;cases q
  | ptr m off=>obtain ⟨_,q⟩:=hc;cases q
  | pim cs=>obtain ⟨b,off,q,_⟩:=hc;cases q
  | fx x=>have:=FXS.not_int hc;exact this.elim
  | junk=>cases h
theorem up_cell {S0 S' : Store} {ρ2 : Nm→Nat} {b : Bool} (hFr : b = true→∀ bb oo k n',w.cell? ⟨bb,oo,none⟩ = some (.int k n')→Fr w ρ S0 bb→Fr w ρ2 S' bb) {c : Cell} {u : Value} (hsafe : c.safe b = true)
    (nm : ∀ m,c.at m→S0 m = S' m∧ρ2 m = ρ m) (hcu : CellS w ρ S0 c u) : CellS w ρ2 S' c u:=by
  have ints : ∀ {k : IntKind} {L : List Int} {q : Nat},b = true→IntsS w (Fr w ρ S0) k L q u→IntsS w (Fr w ρ2 S') k L q u:=by
    intro k L q hb hI
    obtain ⟨A,cap,rfl,g1,g2,g3⟩:=hI
    refine ⟨A,cap,rfl,g1,g2,fun hl=>?_⟩
    obtain ⟨bb,off,e1,e2,e3⟩:=g3 hl
    refine ⟨bb,off,e1,hFr hb bb (off + 0) k _ (e3 0 _ (List.getElem?_eq_getElem hl)) e2,e3⟩
  cases c with
  | sc v=>exact hcu
  | fx x=>exact hcu
  | ints k L=>exact ints hsafe hcu
  | intc k L q=>exact ints hsafe hcu
  | win m off len cm =>
    obtain ⟨h1,h2⟩:=nm m rfl
    obtain ⟨⟨o,ho,ha⟩,g⟩:=hcu
    refine ⟨⟨o,by rw [← h1];exact ho,ha⟩,?_⟩
    rw [h2];exact g
  | ptr m off =>
    obtain ⟨h1,h2⟩:=nm m rfl
    obtain ⟨⟨o,ho,ha⟩,g⟩:=hcu
    exact ⟨⟨o,by rw [← h1];exact ho,ha⟩,by rw [h2];exact g⟩
  | junk=>trivial
  | seq _ _=>cases hsafe
  | seqc _ _ _=>cases hsafe
  | pim _=>cases hsafe
theorem up_cells {S0 S' : Store} {ρ2 : Nm→Nat} {b : Bool} (hFr : b = true→∀ bb oo k n',w.cell? ⟨bb,oo,none⟩ = some (.int k n')→Fr w ρ S0 bb→Fr w ρ2 S' bb) {cs : List Cell} {us : List Value} (hsafe : cs.all (Cell.safe b) = true)
    (nm : ∀ m,(∃ c ∈ cs,c.at m)→S0 m = S' m∧ρ2 m = ρ m) (hcu : CellsS w ρ S0 cs us) : CellsS w ρ2 S' cs us :=
  ⟨hcu.1,fun i x hi=>by
    obtain ⟨u,p1,p2,p3⟩:=hcu.2 i x hi
    have hx:=List.mem_of_getElem? hi
    exact ⟨u,p1,p2,up_cell hFr (List.all_eq_true.1 hsafe x hx) (fun m hm=>nm m ⟨x,hx,hm⟩) p3⟩⟩
theorem up_val1 {S0 S' : Store} {ρ2 : Nm→Nat} {b : Bool} (hFr : b = true→∀ bb oo k n',w.cell? ⟨bb,oo,none⟩ = some (.int k n')→Fr w ρ S0 bb→Fr w ρ2 S' bb) {x : AVal} {u : Value} (hsafe : x.safe1 b = true)
    (nm : ∀ m,x.at1 m→S0 m = S' m∧ρ2 m = ρ m) (hcu : VS1 w ρ S0 x u) : VS1 w ρ2 S' x u:=by
  cases x with
  | c x=>exact up_cell hFr hsafe nm hcu
  | agg cs=>obtain ⟨us,rfl,h⟩:=hcu;exact ⟨us,rfl,up_cells hFr hsafe nm h⟩
  | fn f cs=>obtain ⟨us,rfl,h⟩:=hcu;exact ⟨us,rfl,up_cells hFr hsafe nm h⟩
  | accv m n=>exact hcu
  | accp m n=>exact hcu
  | tup xs=>exact hcu
theorem up_val {S0 S' : Store} {ρ2 : Nm→Nat} {b : Bool} (hFr : b = true→∀ bb oo k n',w.cell? ⟨bb,oo,none⟩ = some (.int k n')→Fr w ρ S0 bb→Fr w ρ2 S' bb) {x : AVal} {u : Value} (hsafe : x.safe b = true)
    (nm : ∀ m,x.at m→S0 m = S' m∧ρ2 m = ρ m) (hcu : VS w ρ S0 x u) : VS w ρ2 S' x u:=by
  cases x with
  | c x=>exact up_val1 (x:=.c x) hFr hsafe nm hcu
  | agg cs=>exact up_val1 (x:=.agg cs) hFr hsafe nm hcu
  | fn f cs=>exact up_val1 (x:=.fn f cs) hFr hsafe nm hcu
  | accv m n =>
    obtain ⟨h1,h2⟩:=nm m rfl
    obtain ⟨ty,sz,L,ho,g⟩:=hcu
    exact ⟨ty,sz,L,by rw [← h1];exact ho,by rw [h2];exact g⟩
  | accp m n =>
    obtain ⟨h1,h2⟩:=nm m rfl
    obtain ⟨ty,sz,L,ho,g⟩:=hcu
    exact ⟨ty,sz,L,by rw [← h1];exact ho,by rw [h2];exact g⟩
  | tup xs =>
    obtain ⟨vs,rfl,hl,h⟩:=hcu
    refine ⟨vs,rfl,hl,fun i x hi=>?_⟩
    obtain ⟨u,h1,h2⟩:=h i x hi
    have hx:=List.mem_of_getElem? hi
    exact ⟨u,h1,up_val1 hFr (List.all_eq_true.1 hsafe x hx) (fun m hm=>nm m ⟨x,hx,hm⟩) h2⟩

theorem updL_same_of_mem : ∀ (U : List (Nm × AObj)) (S S' : Store) {m : Nm},(∃ o,(m,o) ∈ U)→updL S U m = updL S' U m
  | [],S,S',m,⟨o,h⟩=>by cases h
  | p :: U,S,S',m,⟨o,h⟩=>by
    simp only [updL]
    by_cases q : ∃ o,(m,o) ∈ U
    · exact updL_same_of_mem U _ _ q
    · have hno : ∀ r ∈ U,r.1 ≠ m:=fun r hr e=>q ⟨r.2,by rw [← e];exact hr⟩
      rw [updL_ne _ _ _ hno,updL_ne _ _ _ hno]
      rcases List.mem_cons.1 h with e | h
      · subst e;rw [upd_same,upd_same]
      · exact absurd ⟨o,h⟩ q

theorem ACalls.lend {f : FuncId} {args xs : List AVal} {res : Nm→AVal} {ups : Nm→List (Nm × AObj)} {Φ : Store} {pre : SL} {X : List Nm} {b : Bool}
    (hc : ∀ Φ0,(∀ p ∈ pre,Φ0 p.1 = some p.2)→ACalls P f args Φ0 res ups)
    (hargs : LendVs Φ (fun m=>if m ∈ X then none else Φ m) xs args)
    (hpre : ∀ p ∈ pre,Φ p.1 = some p.2∧Rch Φ xs p.1∧p.1 ∉ X∧∀ x ∈ p.2.cls,x.safe b = true∧∀ q,x.at q→q ∉ X∧q ∈ pre.map Prod.fst)
    (hX : ∀ m ∈ X,Rch Φ xs m∧∃ ty cs,Φ m = some (.cells ty cs)∧(b = true→∀ c ∈ cs,c.noInt = true))
    (hres : ∀ n,(res n).safe b = true) (hups : ∀ n,∀ p ∈ ups n,∀ x ∈ p.2.cls,x.safe b = true)
    (hupsN : ∀ n,∀ p ∈ ups n,p.1 = n ∨ (∃ i,p.1 = .fam n i) ∨ p.1 ∈ pre.map Prod.fst)
    (hnmN : ∀ n m,((res n).at m ∨ ∃ p ∈ ups n,∃ x ∈ p.2.cls,x.at m)→(∃ o,(m,o) ∈ ups n) ∨ m ∈ pre.map Prod.fst) : ACalls P f xs Φ res ups:=by
  intro n S hag hn hnf w ρ vs he hgl hvs
  have hXS : ∀ m ∈ X,∃ ty cs,S m = some (.cells ty cs)∧(b = true→∀ c ∈ cs,c.noInt = true):=fun m hm=>by
    obtain ⟨h1,ty,cs,h2,h3⟩:=hX m hm
    exact ⟨ty,cs,by rw [hag m h1];exact h2,h3⟩
  have hpreS : ∀ p ∈ pre,S p.1 = some p.2:=fun p hp=>by
    obtain ⟨h1,h2,-⟩:=hpre p hp
    rw [hag _ h2];exact h1
  have hpreM : ∀ m ∈ pre.map Prod.fst,∃ o,(m,o) ∈ pre:=fun m hm=>by
    obtain ⟨p,hp,rfl⟩:=List.mem_map.1 hm;exact ⟨p.2,hp⟩
  obtain ⟨S0,hS0⟩ : ∃ S0,S0 = lendS w ρ S pre X:=⟨_,rfl⟩
  have he0 : EnvS w ρ S0:=by
    rw [hS0]
    refine lend_env he fun m hm o ho x hx q hq=>?_
    obtain ⟨o',h1⟩:=hpreM m hm
    have:=hpreS _ h1
    simp only at this
    rw [ho] at this
    obtain rfl:=Option.some.inj this
    exact (((hpre _ h1).2.2.2 x hx).2 q hq).1
  have hs0 : Seen w ρ S S0:=by rw [hS0];exact lend_seen he
  have hnX : ∀ m,S m = none→m ∉ X:=fun m hm hx=>by obtain ⟨_,_,h,-⟩:=hXS m hx;rw [hm] at h;cases h
  have hX0 : ∀ m ∈ X,S0 m = none:=fun m hm=>by rw [hS0];unfold lendS;rw [if_pos hm]
  have hn0 : S0 n = none:=by rw [hS0];exact (lendS_dom (hnX n hn)).2 hn
  have hnf0 : ∀ i,S0 (.fam n i) = none:=fun i=>by rw [hS0];exact (lendS_dom (hnX _ (hnf i))).2 (hnf i)
  have hpre0 : ∀ p ∈ pre,S0 p.1 = some p.2:=fun p hp=>by
    rw [hS0];unfold lendS
    rw [if_neg (hpre p hp).2.2.1,if_pos (List.mem_map_of_mem hp)];exact hpreS p hp
  -- the arguments
  have hargs0 : VSs w ρ S0 args vs:=by
    have key : ∀ {x y : AVal} {u : Value},x ∈ xs→LendV Φ (fun m=>if m ∈ X then none else Φ m) x y→VS w ρ S x u→VS w ρ S0 y u:=by
      intro x y u hx hl hu
      have cellk : ∀ {c d : Cell} {v : Value},(∀ m,c.at m→x.at m)→FrzC0 Φ (fun m=>if m ∈ X then none else Φ m) c d→CellS w ρ S c v→CellS w ρ S0 d v:=by
        intro c d v hcx hf hv
        have hrc : ∀ m,RchC Φ c m→Rch Φ xs m:=by
          intro m hm
          induction hm with
          | base hm=>exact .base hx (hcx _ hm)
          | step _ ho hc hq ih=>exact .step ih ho hc hq
        refine FrzC0.heldS hs0 he (hf.tr fun m hm=>?_) hv
        have hSm:=hag m (hrc m hm)
        refine ⟨hSm,fun h=>?_,fun h=>?_⟩
        · by_cases q : m ∈ X
          · exact hX0 m q
          · simp only [if_neg q] at h
            rw [hS0];exact (lendS_dom q).2 (by rw [hSm];exact h)
        · by_cases q : m ∈ X
          · simp only [if_pos q] at h;exact absurd rfl h
          · simp only [if_neg q] at h
            rw [hS0];exact fun e=>h (by rw [← hSm];exact (lendS_dom q).1 e)
      have cellsk : ∀ {cs ds : List Cell} {us : List Value},(∀ c ∈ cs,∀ m,c.at m→x.at m)→cs.length = ds.length→(∀ (i : Nat) (c d : Cell),cs[i]? = some c→ds[i]? = some d→FrzC0 Φ (fun m=>if m ∈ X then none else Φ m) c d)→CellsS w ρ S cs us→CellsS w ρ S0 ds us:=by
        intro cs ds us hcx hl h ⟨g1,g2⟩
        refine ⟨by omega,fun i y hy=>?_⟩
        have hlt:=(List.getElem?_eq_some_iff.1 hy).1
        have hlt' : i < cs.length:=by omega
        obtain ⟨u,p1,p2,p3⟩:=g2 i _ (List.getElem?_eq_getElem hlt')
        exact ⟨u,p1,p2,cellk (hcx _ (List.getElem_mem hlt')) (h i _ y (List.getElem?_eq_getElem hlt') hy) p3⟩
      cases hl with
      | c h=>exact cellk (fun m hm=>hm) h hu
      | agg hl h=>obtain ⟨us,rfl,hu⟩:=hu;exact ⟨us,rfl,cellsk (fun c hc m hm=>⟨c,hc,hm⟩) hl h hu⟩
      | fn hl h=>obtain ⟨us,rfl,hu⟩:=hu;exact ⟨us,rfl,cellsk (fun c hc m hm=>⟨c,hc,hm⟩) hl h hu⟩
    have : ∀ (l l' : List AVal) (us : List Value),(∀ x ∈ l,x ∈ xs)→LendVs Φ (fun m=>if m ∈ X then none else Φ m) l l'→VSs w ρ S l us→VSs w ρ S0 l' us:=by
      intro l
      induction l with
      | nil=>intro l' us _ hl hv;cases l' with
        | nil=>exact ⟨hv.1,fun i x hi=>by simp at hi⟩
        | cons _ _=>exact hl.elim
      | cons x l ih =>
        intro l' us hmem hl hv
        cases l' with
        | nil=>exact hl.elim
        | cons y l' =>
          cases us with
          | nil=>have:=hv.1;simp at this
          | cons u us =>
            have h1:=ih l' us (fun z hz=>hmem z (by simp [hz])) hl.2 ⟨by simpa using hv.1,fun i z hz=>hv.2 (i + 1) z (by simpa using hz)⟩
            refine ⟨by have:=h1.1;simp [this],fun i z hz=>?_⟩
            match i with
            | 0 =>
              simp only [List.getElem?_cons_zero,Option.some.injEq] at hz
              subst hz
              obtain ⟨u',e,hu'⟩:=hv.2 0 x rfl
              exact ⟨u',e,key (hmem x (by simp)) hl.1 hu'⟩
            | i + 1=>exact h1.2 i z (by simpa using hz)
    exact this xs args vs (fun _ h=>h) hargs hvs
  -- the call
  rcases hc S0 hpre0 n S0 (fun _ _=>rfl) hn0 hnf0 w ρ vs he0 (fun g cs hg=>(hgl g cs hg).imp fun b hb=>⟨hs0.fr hb,fun _=>rfl⟩) hargs0 with ⟨hrun,hcall⟩ | ⟨v,hrun,hv,hu⟩
  · refine .inl ⟨hrun,hcall.mono ?_⟩
    rintro e w' ⟨ρ',v,rfl,he',hx',hv'⟩
    have hupX : ∀ p ∈ ups n,p.1 ∉ X:=fun p hp=>by
      rcases hupsN n p hp with q | ⟨i,q⟩ | q
      · rw [q];exact hnX n hn
      · rw [q];exact hnX _ (hnf i)
      · obtain ⟨o,ho⟩:=hpreM _ q;exact (hpre _ ho).2.2.1
    have hX1 : ∀ m ∈ X,updL S0 (ups n) m = none∧updL S (ups n) m = S m:=fun m hm=>by
      have hno : ∀ p ∈ ups n,p.1 ≠ m:=fun p hp e=>hupX p hp (by rw [e];exact hm)
      exact ⟨by rw [updL_ne _ _ _ hno];exact hX0 m hm,updL_ne _ _ _ hno⟩
    -- the names that are not lent
    have hother : ∀ m,m ∉ X→(updL S0 (ups n) m = updL S (ups n) m∧((∃ o,(m,o) ∈ ups n) ∨ m ∈ pre.map Prod.fst)) ∨ (updL S (ups n) m = S m∧updL S0 (ups n) m = S0 m∧m ∉ pre.map Prod.fst):=by
      intro m hm
      by_cases q : ∃ o,(m,o) ∈ ups n
      · exact .inl ⟨updL_same_of_mem _ _ _ q,.inl q⟩
      · have hno : ∀ p ∈ ups n,p.1 ≠ m:=fun p hp e=>q ⟨p.2,by rw [← e];exact hp⟩
        by_cases z : m ∈ pre.map Prod.fst
        · refine .inl ⟨?_,.inr z⟩
          rw [updL_ne _ _ _ hno,updL_ne _ _ _ hno,hS0]
          unfold lendS;rw [if_neg hm,if_pos z]
        · exact .inr ⟨updL_ne _ _ _ hno,updL_ne _ _ _ hno,z⟩
    obtain ⟨ρ2,hρ2⟩ : ∃ ρ2 : Nm→Nat,ρ2 = fun m=>if m ∈ X then ρ m else ρ' m:=⟨_,rfl⟩
    have ρX : ∀ m ∈ X,ρ2 m = ρ m:=fun m hm=>by rw [hρ2];exact if_pos hm
    have ρN : ∀ m,m ∉ X→ρ2 m = ρ' m:=fun m hm=>by rw [hρ2];exact if_neg hm
    have hreal0 : ∀ m o,m ∉ X→updL S (ups n) m = some o→∃ o',updL S0 (ups n) m = some o'∧o'.real = o.real∧(o.isAcc = false→o'.isAcc = false):=by
      intro m o hm ho
      rcases hother m hm with ⟨e,-⟩ | ⟨e1,e2,-⟩
      · exact ⟨o,by rw [e];exact ho,rfl,fun h=>h⟩
      · rw [e1] at ho
        rw [e2,hS0];exact lendS_kp ho hm
    have hback : ∀ m o',updL S0 (ups n) m = some o'→o'.real = true→m ∉ X∧∃ o,updL S (ups n) m = some o∧o.real = true:=by
      intro m o' ho hr
      have hm : m ∉ X:=fun h=>by rw [(hX1 m h).1] at ho;cases ho
      refine ⟨hm,?_⟩
      rcases hother m hm with ⟨e,-⟩ | ⟨e1,e2,-⟩
      · exact ⟨o',by rw [← e];exact ho,hr⟩
      · rw [e2,hS0] at ho
        obtain ⟨o1,a1,a2,-⟩:=lendS_real ho hr
        exact ⟨o1,by rw [e1];exact a1,a2⟩
    have hsame : ∀ bb,bb < w.heap.size→(∀ m o,S0 m = some o→o.real = true→ρ m ≠ bb)→w'.heap[bb]? = w.heap[bb]?:=hx'.old
    have hXheap : ∀ m ∈ X,w'.heap[ρ m]? = w.heap[ρ m]?:=fun m hm=>by
      obtain ⟨ty,cs,h1,-⟩:=hXS m hm
      refine hsame _ (he.lt h1 rfl) fun m' o' hm' hr' e=>?_
      rw [hS0] at hm'
      obtain ⟨o1,a1,a2,a3⟩:=lendS_real hm' hr'
      have:=he.inj m' m o1 _ a1 h1 a2 rfl e
      subst this
      exact a3 hm
    have hoher : ∀ m o,m ∉ X→m ∉ pre.map Prod.fst→S m = some o→o.real = true→(∀ o2,(m,o2) ∉ ups n)→w'.heap[ρ m]? = w.heap[ρ m]?∧ρ' m = ρ m:=by
      intro m o hm hz ho hr hno
      have hno' : ∀ p ∈ ups n,p.1 ≠ m:=fun p hp e=>hno p.2 (by rw [← e];exact hp)
      have h0 : S0 m = some (.fix ((w.heap[ρ m]?).getD (.cells #[] 0 (0,0)))):=by
        rw [hS0];unfold lendS;rw [if_neg hm,if_neg hz,ho];simp only [hr,if_true]
      obtain ⟨o',a1,-,a3⟩:=hx'.kp m _ h0 rfl
      have h1:=he'.obj m _ (show updL S0 (ups n) m = _ by rw [updL_ne _ _ _ hno'];exact h0)
      have hlt:=he.lt ho hr
      refine ⟨?_,a3⟩
      rw [a3] at h1
      have h2 : w'.heap[ρ m]? = some ((w.heap[ρ m]?).getD (.cells #[] 0 (0,0))):=h1
      rw [h2,Array.getElem?_eq_getElem hlt];rfl
    have hext : Ext (fun _=>False) w ρ S w' ρ2 (updL S (ups n)):=by
      refine ⟨hx'.os,hx'.tape,hx'.output,hx'.size,fun bb hb1 hb2=>hsame bb hb1 fun m o hm hr=>?_,fun m o' hm hr=>?_,fun m o hm ha=>?_,fun m o _ hm hr ty q hq=>?_,fun m ty sz L _ hm=>?_,fun _ h=>h.elim⟩
      · rw [hS0] at hm
        obtain ⟨o1,a1,a2,-⟩:=lendS_real hm hr
        exact hb2 m o1 a1 a2
      · by_cases hx : m ∈ X
        · rw [(hX1 m hx).2] at hm
          exact .inl ⟨o',hm,hr,ρX m hx⟩
        · obtain ⟨o1,a1,a2,-⟩:=hreal0 m o' hx hm
          rw [ρN m hx]
          rcases hx'.nms m o1 a1 (by rw [a2];exact hr) with ⟨o2,b1,b2,b3⟩ | b1
          · rw [hS0] at b1
            obtain ⟨o3,c1,c2,-⟩:=lendS_real b1 b2
            exact .inl ⟨o3,c1,c2,b3⟩
          · exact .inr b1
      · by_cases hx : m ∈ X
        · exact ⟨o,by rw [(hX1 m hx).2];exact hm,ha,ρX m hx⟩
        · obtain ⟨o1,a1,-,a3⟩:=lendS_kp (w:=w) (ρ:=ρ) (pre:=pre) hm hx
          rw [← hS0] at a1
          obtain ⟨o2,b1,b2,b3⟩:=hx'.kp m o1 a1 (a3 ha)
          rw [ρN m hx]
          rcases hother m hx with ⟨e,-⟩ | ⟨e1,-,-⟩
          · exact ⟨o2,by rw [← e];exact b1,b2,b3⟩
          · exact ⟨o,by rw [e1];exact hm,ha,b3⟩
      · by_cases hx : m ∈ X
        · obtain ⟨us,p1,p2⟩:=hq
          exact ⟨us,by rw [hXheap m hx];exact p1,p2⟩
        · obtain ⟨o1,a1,a2,-⟩:=lendS_kp (w:=w) (ρ:=ρ) (pre:=pre) hm hx
          rw [← hS0] at a1
          exact hx'.szs m o1 (fun h=>h) a1 (by rw [a2];exact hr) ty q hq
      · have hx : m ∉ X:=fun h=>by obtain ⟨_,_,h1,-⟩:=hXS m h;rw [hm] at h1;cases h1
        rw [ρN m hx]
        rcases hother m hx with ⟨e,hz⟩ | ⟨e1,e2,hz⟩
        · have hz' : m ∈ pre.map Prod.fst:=by
            rcases hz with ⟨o,ho⟩ | hz
            · rcases hupsN n _ ho with q | ⟨i,q⟩ | q
              · simp only at q;rw [q,hn] at hm;cases hm
              · simp only at q;rw [q,hnf] at hm;cases hm
              · exact q
            · exact hz
          have h0 : S0 m = some (.acc ty sz L):=by rw [hS0];unfold lendS;rw [if_neg hx,if_pos hz'];exact hm
          obtain ⟨a1,a2⟩:=hx'.acc m ty sz L (fun h=>h) h0
          exact ⟨by rw [← e];exact a1,a2⟩
        · refine ⟨by rw [e1];exact hm,fun hl=>?_⟩
          have hr : (AObj.acc ty sz L).real = true:=AObj.acc_real hl
          obtain ⟨o1,a1,-,-⟩:=lendS_kp (w:=w) (ρ:=ρ) (pre:=pre) hm hx
          have h0 : S0 m = some (.fix ((w.heap[ρ m]?).getD (.cells #[] 0 (0,0)))):=by
            rw [hS0];unfold lendS;rw [if_neg hx,if_neg hz,hm];simp only [hr,if_true]
          obtain ⟨_,-,-,b3⟩:=hx'.kp m _ h0 rfl
          exact b3
    -- what the callee tells stands for us too
    have hFr : b = true→∀ bb oo k n',w'.cell? ⟨bb,oo,none⟩ = some (.int k n')→Fr w' ρ' (updL S0 (ups n)) bb→Fr w' ρ2 (updL S (ups n)) bb:=by
      intro hb bb oo k n' hcell hf
      refine ⟨hf.1,fun m o hm hr e=>?_⟩
      by_cases hx : m ∈ X
      · rw [ρX m hx] at e
        obtain ⟨ty,cs,h1,h2⟩:=hXS m hx
        obtain ⟨us,q1,q0,q2⟩:=he.obj m _ h1
        have hh:=hXheap m hx
        rw [e] at hh q1
        rw [q1] at hh
        rw [cell_of_heap hh] at hcell
        have hlt:=(Array.getElem?_eq_some_iff.1 hcell).1
        obtain ⟨u,p1,-,p3⟩:=q2 oo _ (List.getElem?_eq_getElem (by omega))
        rw [hcell] at p1
        obtain rfl:=Option.some.inj p1
        exact noInt_val (h2 hb _ (List.getElem_mem (by omega))) p3 k n' rfl
      · obtain ⟨o1,a1,a2,-⟩:=hreal0 m o hx hm
        rw [ρN m hx] at e
        exact hf.2 m o1 a1 (by rw [a2];exact hr) e
    have nm : ∀ m,(∃ o,(m,o) ∈ ups n) ∨ m ∈ pre.map Prod.fst→updL S0 (ups n) m = updL S (ups n) m∧ρ2 m = ρ' m:=by
      intro m hm
      rcases hm with ⟨o,ho⟩ | hz
      · exact ⟨updL_same_of_mem _ _ _ ⟨o,ho⟩,ρN m (hupX _ ho)⟩
      · obtain ⟨o,ho⟩:=hpreM m hz
        have hx:=(hpre _ ho).2.2.1
        refine ⟨?_,ρN m hx⟩
        rcases hother m hx with ⟨e,-⟩ | ⟨-,-,h⟩
        · exact e
        · exact absurd hz h
    have hup : ∀ {c : Cell} {u : Value},c.safe b = true→(∀ m,c.at m→(∃ o,(m,o) ∈ ups n) ∨ m ∈ pre.map Prod.fst)→CellS w' ρ' (updL S0 (ups n)) c u→CellS w' ρ2 (updL S (ups n)) c u :=
      fun hsafe hnm hcu=>up_cell hFr hsafe (fun m hm=>nm m (hnm m hm)) hcu
    have hupO : ∀ {o : AObj} {bb : Nat},(∀ x ∈ o.cls,x.safe b = true∧∀ m,x.at m→(∃ o,(m,o) ∈ ups n) ∨ m ∈ pre.map Prod.fst)→ObjS w' ρ' (updL S0 (ups n)) bb o→ObjS w' ρ2 (updL S (ups n)) bb o:=by
      intro o bb hs ho
      cases o with
      | ints ty k L=>exact ho
      | fix x=>exact ho
      | row ty cs =>
        obtain ⟨us,q1,q2⟩:=ho
        refine ⟨us,q1,fun i x hi=>?_⟩
        obtain ⟨u,p1,p2,p3⟩:=q2 i x hi
        obtain ⟨s1,s2⟩:=hs x (List.mem_of_getElem? hi)
        exact ⟨u,p1,p2,hup s1 s2 p3⟩
      | cells ty cs =>
        obtain ⟨us,q1,q0,q2⟩:=ho
        refine ⟨us,q1,q0,fun i x hi=>?_⟩
        obtain ⟨u,p1,p2,p3⟩:=q2 i x hi
        obtain ⟨s1,s2⟩:=hs x (List.mem_of_getElem? hi)
        exact ⟨u,p1,p2,hup s1 s2 p3⟩
      | acc ty sz L =>
        rcases ho with ho | ⟨us,q1,q0,q2⟩
        · exact .inl ho
        · refine .inr ⟨us,q1,q0,fun i c j x hi hj=>?_⟩
          obtain ⟨u,p1,p2,p3⟩:=q2 i c j x hi hj
          obtain ⟨s1,s2⟩:=hs x (List.mem_flatten.2 ⟨c,List.mem_of_getElem? hi,List.mem_of_getElem? hj⟩)
          exact ⟨u,p1,p2,hup s1 s2 p3⟩
    refine ⟨ρ2,v,rfl,⟨fun m m' o o' h1 h2 r1 r2 e=>?_,fun m o hm=>?_⟩,hext,?_⟩
    · have key : ∀ m m' o o',m ∈ X→m' ∉ X→updL S (ups n) m = some o→updL S (ups n) m' = some o'→o'.real = true→ρ2 m = ρ2 m'→False:=by
        intro m m' o o' hx hx2 h1 h2 r2 e
        rw [ρX m hx,ρN m' hx2] at e
        obtain ⟨ty,cs,g1,-⟩:=hXS m hx
        obtain ⟨o1,a1,a2,-⟩:=hreal0 m' o' hx2 h2
        rcases hx'.nms m' o1 a1 (by rw [a2];exact r2) with ⟨o2,b1,b2,b3⟩ | b1
        · rw [hS0] at b1
          obtain ⟨o3,c1,c2,-⟩:=lendS_real b1 b2
          have:=he.inj m m' _ o3 g1 c1 rfl c2 (by rw [e,b3])
          subst this
          exact hx2 hx
        · have:=he.lt g1 rfl
          omega
      by_cases hx : m ∈ X <;> by_cases hx2 : m' ∈ X
      · rw [(hX1 m hx).2] at h1
        rw [(hX1 m' hx2).2] at h2
        rw [ρX m hx,ρX m' hx2] at e
        exact he.inj m m' o o' h1 h2 r1 r2 e
      · exact (key m m' o o' hx hx2 h1 h2 r2 e).elim
      · exact (key m' m o' o hx2 hx h2 h1 r1 e.symm).elim
      · obtain ⟨o1,a1,a2,-⟩:=hreal0 m o hx h1
        obtain ⟨o2,b1,b2,-⟩:=hreal0 m' o' hx2 h2
        rw [ρN m hx,ρN m' hx2] at e
        exact he'.inj m m' o1 o2 a1 b1 (by rw [a2];exact r1) (by rw [b2];exact r2) e
    · by_cases hx : m ∈ X
      · rw [(hX1 m hx).2] at hm
        rw [ρX m hx]
        exact (he.obj m o hm).ext hext (fun x hxx=>by rw [hXheap m hx];exact hxx)
      · rcases hother m hx with ⟨e,hz⟩ | ⟨e1,e2,hz⟩
        · have h1:=he'.obj m o (by rw [e];exact hm)
          rw [ρN m hx]
          refine hupO (fun x hxc=>?_) h1
          rcases updL_get _ _ _ _ hm with q | q
          · rcases hz with ⟨o2,ho2⟩ | hz
            · rcases hupsN n _ ho2 with q1 | ⟨i,q1⟩ | q1
              · simp only at q1;rw [q1,hn] at q;cases q
              · simp only at q1;rw [q1,hnf] at q;cases q
              · obtain ⟨o3,ho3⟩:=hpreM m q1
                have h3:=hpreS _ ho3
                simp only at h3
                rw [q] at h3
                obtain rfl:=Option.some.inj h3
                exact ⟨((hpre _ ho3).2.2.2 x hxc).1,fun r hr=>.inr (((hpre _ ho3).2.2.2 x hxc).2 r hr).2⟩
            · obtain ⟨o3,ho3⟩:=hpreM m hz
              have h3:=hpreS _ ho3
              simp only at h3
              rw [q] at h3
              obtain rfl:=Option.some.inj h3
              exact ⟨((hpre _ ho3).2.2.2 x hxc).1,fun r hr=>.inr (((hpre _ ho3).2.2.2 x hxc).2 r hr).2⟩
          · exact ⟨hups n _ q x hxc,fun r hr=>hnmN n r (.inr ⟨_,q,x,hxc,hr⟩)⟩
        · rw [e1] at hm
          by_cases hr : o.real = true
          · have hno : ∀ o2,(m,o2) ∉ ups n:=fun o2 ho2=>by
              rcases hupsN n _ ho2 with q1 | ⟨i,q1⟩ | q1
              · simp only at q1;rw [q1,hn] at hm;cases hm
              · simp only at q1;rw [q1,hnf] at hm;cases hm
              · exact hz q1
            obtain ⟨g1,g2⟩:=hoher m o hx hz hm hr hno
            rw [ρN m hx,g2]
            exact (he.obj m o hm).ext hext (fun x hxx=>by rw [g1];exact hxx)
          · cases o with
            | acc ty sz L=>cases L with | nil=>exact .inl rfl | cons a l=>exact absurd rfl hr
            | ints ty k L=>exact absurd rfl hr
            | cells ty cs=>exact absurd rfl hr
            | fix x=>exact absurd rfl hr
            | row ty cs=>exact absurd rfl hr
    · have hnm : ∀ m,(res n).at m→(∃ o,(m,o) ∈ ups n) ∨ m ∈ pre.map Prod.fst:=fun m hm=>hnmN n m (.inl hm)
      exact up_val hFr (hres n) (fun m hm=>nm m (hnm m hm)) hv'
  · refine .inr ⟨v,hrun,?_,hu⟩
    refine up_val (b:=b) (ρ:=ρ) (ρ2:=ρ) (fun hb bb oo k n' hcell hf=>⟨hf.1,fun m o hm hr e=>?_⟩) (hres n) (fun m hm=>⟨?_,rfl⟩) hv
    · by_cases hx : m ∈ X
      · obtain ⟨ty,cs,h1,h2⟩:=hXS m hx
        obtain ⟨us,q1,q0,q2⟩:=he.obj m _ h1
        rw [e] at q1
        rw [cell_of_heap q1] at hcell
        have hlt:=(Array.getElem?_eq_some_iff.1 hcell).1
        obtain ⟨u,p1,-,p3⟩:=q2 oo _ (List.getElem?_eq_getElem (by omega))
        rw [hcell] at p1
        obtain rfl:=Option.some.inj p1
        exact noInt_val (h2 hb _ (List.getElem_mem (by omega))) p3 k n' rfl
      · obtain ⟨o1,a1,a2,-⟩:=lendS_kp (w:=w) (ρ:=ρ) (pre:=pre) hm hx
        rw [← hS0] at a1
        exact hf.2 m o1 a1 (by rw [a2];exact hr) e
    · rcases hnmN n m (.inl hm) with ⟨o,ho⟩ | hz
      · rw [hu] at ho;cases ho
      · obtain ⟨o,ho⟩:=hpreM m hz
        rw [hpre0 _ ho,hpreS _ ho]
end
end Go.Abs

/-
  Lending, told by lists; places of what is gathered; rows.
-/
namespace Go.Abs
open Go

section
variable {P : Program} {T : TT} {mu : FuncId→Bool} {N : Nat} {ops : Array Oper} {fl : FL} {sl : SL} {S : Store} {K : St→Prop}
  {d : Nat} {ty : TypeId} {pos : String} {after : Array Edge}

abbrev lent (A : Store) (X : List Nm) : Store:=fun m=>if m ∈ X then none else A m

theorem lv0 {A B : Store} {x : Cell} (h : ∀ m,¬ x.at m:=by exact fun _ h=>h.elim) : LendV A B (.c x) (.c x):=.c (.keep fun m hm=>absurd hm (h m))
theorem lvK {sl : SL} {S : Store} {X : List Nm} {z : Nm} {off : Nat} {o : AObj} (hz : z ∉ X) (h : lkS sl z = some o) : LendV (ov sl S) (lent (ov sl S) X) (.c (.ptr z off)) (.c (.ptr z off)) :=
  .c (.keep fun m hm=>by have e : z = m:=hm;subst e;simp only [lent,if_neg hz];rw [ov_of h];simp)
theorem lvP {sl : SL} {S : Store} {X : List Nm} {z : Nm} {ty : TypeId} {ls : List Leaf} (hz : z ∈ X) (h : lkS sl z = some (.cells ty (ls.map Leaf.cell))) : LendV (ov sl S) (lent (ov sl S) X) (.c (.ptr z 0)) (.c (.pim ls)):=by
  refine .c (.ptr (fun j=>((ls[j]?).map Leaf.cell).getD .junk) (.inl (ov_of h)) (by simp only [lent,if_pos hz]) (fun j l hj=>by simp [hj]) fun j l hj=>?_)
  simp only [hj,Option.map_some,Option.getD_some]
  exact .keep fun q hq=>absurd hq (l.cell_nm q)

def AObj.safeO (b : Bool) (o : AObj) : Prop:=∀ x ∈ o.cls,x.safe b = true∧∀ q,¬ x.at q
theorem safeO_big {b : Bool} {ty : TypeId} {v : Value} {k : IntKind} {L : List Int} (h : b = true) : (AObj.cells ty (List.map Leaf.cell [.sc v,.ints k L])).safeO b:=by
  subst h
  intro x hx
  simp only [AObj.cls,List.map_cons,List.map_nil,List.mem_cons,List.not_mem_nil,or_false] at hx
  rcases hx with rfl | rfl <;> exact ⟨rfl,fun q h=>h⟩
theorem safeO_leaf {ty : TypeId} {a c : Leaf} (ha : a.cell.safe true = true) (hc : c.cell.safe true = true) : (AObj.cells ty (List.map Leaf.cell [a,c])).safeO true:=by
  intro x hx
  simp only [AObj.cls,List.map_cons,List.map_nil,List.mem_cons,List.not_mem_nil,or_false] at hx
  rcases hx with rfl | rfl
  · exact ⟨ha,a.cell_nm⟩
  · exact ⟨hc,c.cell_nm⟩

def LentX (sl : SL) (xs : List AVal) (b : Bool) (X : List Nm) : Prop:=∀ m ∈ X,(∃ x ∈ xs,x.at m)∧∃ ty cs,lkS sl m = some (.cells ty cs)∧(b = true→∀ c ∈ cs,c.noInt = true)
theorem lentX1 {xs : List AVal} {b : Bool} {m : Nm} {ty : TypeId} {v : Bool} {k : IntKind} {L : List Int} (hx : ∃ x ∈ xs,x.at m) (h : lkS sl m = some (.cells ty (List.map Leaf.cell [.sc (.bool v),.ints k L]))) : LentX sl xs b [m]:=by
  intro q hq
  simp only [List.mem_singleton] at hq
  subst hq
  refine ⟨hx,ty,_,h,fun _ c hc=>?_⟩
  simp only [List.map_cons,List.map_nil,List.mem_cons,List.not_mem_nil,or_false] at hc
  rcases hc with rfl | rfl <;> rfl
theorem s_lend1 {f : FuncId} {as : Array Operand} {tys : Array TypeId} {xs args : List AVal} {z : Nm} {o o' : AObj} {res : AVal} (hc : AProc P f args [(z,o)] [(z,o')] res) (X : List Nm)
    (hl : LendVs (ov sl (pushS S)) (lent (ov sl (pushS S)) X) xs args) (hX : LentX sl xs true X) (hz : (∃ x ∈ xs,x.at z)∧z ∉ X) (hres : res.safe true = true∧∀ m,res.at m→m = z) (ho : o.safeO true) (ho' : o'.safeO true)
    (k : K ⟨lk' ((d,res) :: fl),ov ((z,o') :: sl) (pushS S)⟩) (hm : lkS sl z = some o:=by exact lks)
    (hmu : mu f = true:=by exact rfl) (hx : opsO fl as.toList = some xs:=by exact rfl) (hf : freeO sl d = true:=by exact fro) :
    Stp P mu ops ⟨some d,.call ⟨.value (.func f),as,tys⟩,ty,pos,after,none⟩ ⟨lk' fl,ov sl (pushS S)⟩ K:=by
  have hzr : Rch (ov sl (pushS S)) xs z:=.of hz.1
  have hXo : ∀ m ∈ X,Rch (ov sl (pushS S)) xs m∧∃ ty cs,ov sl (pushS S) m = some (.cells ty cs)∧(true = true→∀ c ∈ cs,c.noInt = true):=fun m hm=>by
    obtain ⟨h1,ty,cs,h2,h3⟩:=hX m hm
    exact ⟨.of h1,ty,cs,ov_of h2,h3⟩
  have hcall:=ACalls.lend (b:=true) (pre:=[(z,o)]) (Φ:=ov sl (pushS S)) (X:=X) (xs:=xs) hc.calls hl
    (fun p hp=>by
      simp only [List.mem_singleton] at hp
      subst hp
      exact ⟨ov_of hm,hzr,hz.2,fun x hx=>⟨(ho x hx).1,fun q hq=>absurd hq ((ho x hx).2 q)⟩⟩) hXo (fun _=>hres.1)
    (fun _ p hp x hx=>by
      simp only [List.mem_singleton] at hp
      subst hp
      exact (ho' x hx).1)
    (fun n p hp=>.inr (.inr (by simp only [List.mem_singleton] at hp;subst hp;simp)))
    (fun n m hm=>by
      rcases hm with hm | ⟨p,hp,x,hx,hq⟩
      · have:=hres.2 m hm;subst this;exact .inr (by simp)
      · simp only [List.mem_singleton] at hp
        subst hp
        exact absurd hq ((ho' x hx).2 m))
  refine stp_call hcall rfl hx (by simp only [List.map_nil,List.append_nil];exact ales_refl xs) hf (fun _ _=>rfl) ⟨fun p hp=>.inr (.inr ⟨hmu,?_⟩),.inr (.inl hmu),fun m hm=>.inr ?_,fun p hp x hx m hm=>?_⟩ k
  · simp only [List.mem_singleton] at hp
    subst hp;exact hzr
  · have:=hres.2 m hm;subst this;exact hzr
  · simp only [List.mem_singleton] at hp
    subst hp
    exact absurd hm ((ho' x hx).2 m)
where
  ales_refl : ∀ xs : List AVal,ALes xs xs
    | []=>trivial
    | x :: xs=>⟨ALe.refl x,ales_refl xs⟩

theorem s_lendF {f : FuncId} {as : Array Operand} {tys : Array TypeId} {xs args : List AVal} {res : AVal} (hc : AFun P f args res) (X : List Nm) (hl : LendVs (ov sl (pushS S)) (lent (ov sl (pushS S)) X) xs args) (hX : LentX sl xs true X)
    (k : K ⟨lk' ((d,res) :: fl),ov sl (pushS S)⟩) (hres : res.safe true = true:=by exact rfl) (hx : opsO fl as.toList = some xs:=by exact rfl) (hf : freeO sl d = true:=by exact fro) :
    Stp P mu ops ⟨some d,.call ⟨.value (.func f),as,tys⟩,ty,pos,after,none⟩ ⟨lk' fl,ov sl (pushS S)⟩ K:=by
  have hXo : ∀ m ∈ X,Rch (ov sl (pushS S)) xs m∧∃ ty cs,ov sl (pushS S) m = some (.cells ty cs)∧(true = true→∀ c ∈ cs,c.noInt = true):=fun m hm=>by
    obtain ⟨h1,ty,cs,h2,h3⟩:=hX m hm
    exact ⟨.of h1,ty,cs,ov_of h2,h3⟩
  have hcall:=ACalls.lend (b:=true) (pre:=[]) (Φ:=ov sl (pushS S)) (X:=X) (xs:=xs) (fun Φ0 _=>hc.calls Φ0) hl (by simp) hXo (fun _=>hres) (by simp) (by simp)
    (fun n m hm=>by
      rcases hm with hm | ⟨p,hp,-⟩
      · exact absurd hm (hc.res0 m)
      · cases hp)
  exact stp_call hcall rfl hx (by simp only [List.map_nil,List.append_nil];exact s_lend1.ales_refl xs) hf (fun _ _=>rfl) ⟨by simp,.inl rfl,fun m hm=>absurd hm (hc.res0 m),by simp⟩ k

theorem ANew.made {f : FuncId} {args : List AVal} {tb : TypeId} {ls : List Leaf} (h : ANew P f args tb ls) : AMade P f args (fun n=>.c (.ptr n 0)) (.cells tb (ls.map Leaf.cell)) where
  calls:=h.calls
  args0:=h.args0
  resM:=fun φ n=>rfl
  resN:=fun n m h=>(show n = m from h).symm
  ob0:=fun x hx m=>leaves_nm0 hx m

/-! ### Places of what is gathered -/
theorem za2 (hT : TOk P T) {t : TypeId} {x : Operand} {m : Nm} {off i j sz : Nat} {ty' : TypeId} {L : List (List Cell)} {y : Cell} (kk : K ⟨lk' ((d,.c y) :: fl),ov sl S⟩) (hy : ∃ c,L[i]? = some c∧c[j]? = some y) (ho : off = i * sz + j) (hx : opO fl x = some (.accp m off):=by exact rfl)
    (ha : agT T t = some false:=by exact rfl) (hm : lkS sl m = some (.acc ty' sz L):=by exact lks) : Stp P mu ops ⟨some d,.load t x,ty,pos,after,none⟩ ⟨lk' fl,ov sl S⟩ K:=by
  refine ⟨_,⟨.c y,ov sl S,⟨?_,rfl⟩,rfl⟩,by rw [putF_lk];exact kk⟩
  rw [opO_look hx]
  obtain ⟨c,h1,h2⟩:=hy
  exact ⟨ty',sz,L,i,j,c,ov_of hm,ho,h1,.inr ⟨hT.ag ha,y,h2,rfl⟩⟩
end
end Go.Abs

/-
  Families of blocks: a list of pointers, each to a block of its own.
-/
namespace Go.Abs
open Go

theorem fam_put {g : Nat→Nm} (hg : ∀ i j,g i = g j→i = j) {lits : SL} (hl : ∀ i,lkS lits (g i) = none) {os : List AObj} {j : Nat} (hj : j < os.length) (o : AObj) (S : Store) :
    ov ((g j,o) :: (lits ++ famL g 0 os)) S = ov (lits ++ famL g 0 (os.set j o)) S:=by
  refine ov_congr fun m=>?_
  simp only [lkS,lkS_app]
  by_cases hm : ∃ i,m = g i
  · obtain ⟨i,rfl⟩:=hm
    rw [hl i]
    simp only [lkS_fam hg]
    by_cases e : g i = g j
    · have:=hg _ _ e
      subst this
      simp [hj]
    · rw [if_neg e,List.getElem?_set_ne (fun q=>e (by rw [q]))]
  · have hm' : ∀ i,m ≠ g i:=fun i e=>hm ⟨i,e⟩
    rw [if_neg (hm' j),lkS_famN hm',lkS_famN hm']

section
variable {P : Program} {mu : FuncId→Bool} {N : Nat} {ops : Array Oper} {Q : Exit→St→Prop} {l : List Oper} {c : Code} {fr : Fram} {S1 S2 : Store}
theorem aw_sg (e : S1 = S2) (h : aw P mu N ops Q l ⟨fr,S2⟩) : aw P mu N ops Q l ⟨fr,S1⟩:=e ▸ h
end

/-! ### The store's family, told anew -/
theorem fFam {A B : Store} {g : Nat→Nm} : ∀ {os : List AObj} {s : Nat},(∀ j o,os[j]? = some o→A (g (s + j)) = some o∧FrzO A B o o)→FrzS A B (famL g s os)
  | [],_,_=>trivial
  | o :: os,s,h=>⟨.inl ⟨o,(h 0 o rfl).1,(h 0 o rfl).2⟩,fFam (os:=os) (s:=s + 1) fun j o' hj=>by
      have:=h (j + 1) o' (by simpa using hj)
      rwa [show s + (j + 1) = s + 1 + j by omega] at this⟩
end Go.Abs
