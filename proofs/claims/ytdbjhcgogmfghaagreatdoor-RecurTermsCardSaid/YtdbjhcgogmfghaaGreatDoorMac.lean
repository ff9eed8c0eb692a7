/-
  An abstract machine for this program, and contracts of its functions: part Mac (no statement by itself).
-/
import Derived.Test.YtdbjhcgogmfghaaGreatDoorMab
set_option linter.unusedVariables false
set_option linter.unusedSimpArgs false
set_option linter.unnecessarySimpa false

/-
  What an operation hangs on: its operands, the names that they mention.
-/
namespace Go.Abs
open Go

section
variable {P : Program} {mu : FuncId→Bool}

theorem fillE_congr {place : Nat→Option (Nat × Nat)} {r r' : Operand→AVal} : ∀ {ps : List (Nat × Operand)} {cs out : List Cell},(∀ p ∈ ps,r p.2 = r' p.2)→fillE place r cs ps out→fillE place r' cs ps out
  | [],_,_,_,h=>h
  | (i,x) :: rest,cs,out,hp,⟨off,size,h1,h2,h3,h4,h5⟩=>by
    have e:=hp (i,x) (by simp)
    simp only at e
    exact ⟨off,size,h1,by rw [← e];exact h2,by rw [← e];exact h3,h4,by rw [← e];exact fillE_congr (fun p hq=>hp p (by simp [hq])) h5⟩

theorem mem_pairs {ps : Array (Nat × Operand)} {p : Nat × Operand} (h : p ∈ ps.toList) : p.2 ∈ (ps.toList.map (·.2)).toArray:=by
  simp only [List.mem_toArray];exact List.mem_map.2 ⟨p,h,rfl⟩

theorem bndE_congr {r r' : Operand→AVal} {lo hi : Option Operand} {n c l h : Nat} (h1 : ∀ x,lo = some x→r x = r' x) (h2 : ∀ x,hi = some x→r x = r' x) (hb : bndE r lo hi n c l h) : bndE r' lo hi n c l h:=by
  unfold bndE at *
  cases lo <;> cases hi <;> simp_all <;> omega

theorem map_agree {r r' : Operand→AVal} {l : List Operand} (h : ∀ x ∈ l,r x = r' x) : l.map r = l.map r':=List.map_congr_left h

theorem builtinE_congr {r r' : Operand→AVal} {b : Builtin} {A : List Operand} {T : List TypeId} {v : AVal} (hr : ∀ x ∈ A,r x = r' x) (h : builtinE P r b A T v) : builtinE P r' b A T v:=by
  unfold builtinE at *
  split at h
  · rename_i x t
    rw [← hr x (by simp)];exact h
  · rw [← map_agree hr];exact h
  · rw [← map_agree hr];exact h
  · exact h.elim

theorem PE0_congr {r r' : Operand→AVal} {op : Op} {v : AVal} (hr : ∀ x ∈ op.operands,r x = r' x) (h : PE0 P r op v) : PE0 P r' op v:=by
  cases op with
  | move x=>simp only [PE0] at *;rw [← hr x (by simp [Op.operands])];exact h
  | assign x=>simp only [PE0] at *;rw [← hr x (by simp [Op.operands])];exact h
  | pick c a b=>simp only [PE0] at *;rw [← hr c (by simp [Op.operands]),← hr a (by simp [Op.operands]),← hr b (by simp [Op.operands])];exact h
  | nilCheck x=>simp only [PE0] at *;rw [← hr x (by simp [Op.operands])];exact h
  | binOp op T x y T2=>simp only [PE0] at *;rw [← hr x (by simp [Op.operands]),← hr y (by simp [Op.operands])];exact h
  | unOp op T x=>simp only [PE0] at *;rw [← hr x (by simp [Op.operands])];exact h
  | convert s d x=>simp only [PE0] at *;rw [← hr x (by simp [Op.operands])];exact h
  | fieldAddr s x f=>simp only [PE0] at *;rw [← hr x (by simp [Op.operands])];exact h
  | field s x f=>simp only [PE0] at *;rw [← hr x (by simp [Op.operands])];exact h
  | indexAddr t x i=>simp only [PE0] at *;rw [← hr x (by simp [Op.operands]),← hr i (by simp [Op.operands])];exact h
  | index t x i=>simp only [PE0] at *;rw [← hr x (by simp [Op.operands]),← hr i (by simp [Op.operands])];exact h
  | slice t x lo hi mx =>
    simp only [PE0,sliceE] at *
    rw [← hr x (by simp [Op.operands])]
    obtain ⟨rfl,e,h1,h2,h3⟩:=h
    have hlo : ∀ y,lo = some y→r y = r' y:=fun y e=>hr y (by subst e;simp [Op.operands])
    have hhi : ∀ y,hi = some y→r y = r' y:=fun y e=>hr y (by subst e;simp [Op.operands])
    refine ⟨rfl,e,h1,h2,?_⟩
    split at h3 <;> first
      | exact h3.elim
      | (obtain ⟨a,l,h,b,c⟩:=h3;exact ⟨a,l,h,bndE_congr hlo hhi b,c⟩)
      | (obtain ⟨l,h,b,c⟩:=h3;exact ⟨l,h,bndE_congr hlo hhi b,c⟩)
  | extract x i=>simp only [PE0] at *;rw [← hr x (by simp [Op.operands])];exact h
  | build t ps =>
    simp only [PE0,buildE] at *
    obtain ⟨fs,z,out,h1,h2,h3,h4,h5,h6⟩:=h
    exact ⟨fs,z,out,h1,h2,h3,h4,fillE_congr (fun p hp=>hr p.2 (mem_pairs hp)) h5,h6⟩
  | makeFunc g first cap =>
    simp only [PE0] at *
    split at h
    · obtain ⟨h1,cs,h2,h3⟩:=h
      refine ⟨h1,cs,?_,h3⟩
      rw [← h2]
      exact (map_agree fun x hx=>hr x (by simp [Op.operands];exact .inr (by simpa using hx))).symm
    · exact h.elim
  | call c =>
    simp only [PE0] at *
    split at h
    · rename_i b e
      have hargs : ∀ x ∈ c.args.toList,r x = r' x:=fun x hx=>hr x (by simp [Op.operands,Call.operands];exact .inr (by simpa using hx))
      exact builtinE_congr hargs h
    · exact h.elim
  | _=>exact h.elim

theorem FE_congr {r r' : Operand→AVal} {op : Op} {v : AVal} (hr : ∀ x ∈ op.operands,r x = r' x) (h : FE P r op v) : FE P r' op v:=by
  cases op with
  | binOp op T x y T2=>simp only [FE] at *;rw [← hr x (by simp [Op.operands]),← hr y (by simp [Op.operands])];exact h
  | unOp op T x=>simp only [FE] at *;rw [← hr x (by simp [Op.operands])];exact h
  | convert s d x=>simp only [FE] at *;rw [← hr x (by simp [Op.operands])];exact h
  | call c =>
    obtain ⟨callee,args,tys⟩:=c
    cases callee with
    | builtin b=>simp only [FE] at *;rw [← map_agree (fun x hx=>hr x (by simpa [Op.operands,Call.operands] using hx))];exact h
    | value f=>exact h
    | invoke rc m=>exact h
  | _=>exact h
theorem PE_congr {r r' : Operand→AVal} {op : Op} {v : AVal} (hr : ∀ x ∈ op.operands,r x = r' x) (h : PE P r op v) : PE P r' op v:=h.imp (PE0_congr hr) (FE_congr hr)

theorem newE_congr {r r' : Operand→AVal} {d : Nat} {op : Op} {v : AVal} {ob : AObj} (hr : ∀ x ∈ op.operands,r x = r' x) (h : newE P r d op v ob) : newE P r' d op v ob:=by
  cases op with
  | alloc e=>exact h
  | box e x=>simp only [newE] at *;rw [← hr x (by simp [Op.operands])];exact h
  | buildSlice t n ps =>
    simp only [newE] at *
    obtain ⟨e,z,out,h1,h2,h3,h4,h5,h6,h7,h8⟩:=h
    exact ⟨e,z,out,h1,h2,h3,h4,h5,h6,fillE_congr (fun p hp=>hr p.2 (mem_pairs hp)) h7,h8⟩
  | makeSlice t l c=>simp only [newE] at *;rw [← hr l (by simp [Op.operands]),← hr c (by simp [Op.operands])];exact h
  | _=>exact h.elim

theorem eff_congr {fr fr' : Fram} {S S' : Store} {o : Oper} {v : AVal} (hr : ∀ x ∈ o.op.operands,look fr x = look fr' x) (h : eff P mu fr S o v S') : eff P mu fr' S o v S':=by
  obtain ⟨dst,op,ty,pos,after,guard⟩:=o
  simp only at hr
  cases op with
  | load t a=>simp only [eff] at *;rw [← hr a (by simp [Op.operands])];exact h
  | store t a x=>simp only [eff] at *;rw [← hr a (by simp [Op.operands]),← hr x (by simp [Op.operands])];exact h
  | alloc e=>obtain ⟨d,ob,h1,h2,h3,h4⟩:=h;exact ⟨d,ob,h1,h2,newE_congr hr h3,h4⟩
  | box e x=>obtain ⟨d,ob,h1,h2,h3,h4⟩:=h;exact ⟨d,ob,h1,h2,newE_congr hr h3,h4⟩
  | buildSlice t n ps=>obtain ⟨d,ob,h1,h2,h3,h4⟩:=h;exact ⟨d,ob,h1,h2,newE_congr hr h3,h4⟩
  | makeSlice t l c=>obtain ⟨d,ob,h1,h2,h3,h4⟩:=h;exact ⟨d,ob,h1,h2,newE_congr hr h3,h4⟩
  | call c =>
    obtain ⟨callee,args,tys⟩:=c
    cases callee with
    | value f =>
      simp only [eff] at *
      rw [← hr f (by simp [Op.operands,Call.operands]),← map_agree (r:=look fr) (r':=look fr') (l:=args.toList) (fun x hx=>hr x (by simp [Op.operands,Call.operands];exact .inr (by simpa using hx)))]
      exact h
    | invoke rc m=>exact ⟨PE_congr hr h.1,h.2⟩
    | builtin b=>exact ⟨PE_congr hr h.1,h.2⟩
  | _=>exact ⟨PE_congr hr h.1,h.2⟩

/-! ### Names -/
theorem spl_mem {cs xs : List Cell} {off : Nat} {x : Cell} (h : x ∈ spl cs off xs) : x ∈ cs ∨ x ∈ xs:=by
  unfold spl at h
  rcases List.mem_append.1 h with h | h
  · rcases List.mem_append.1 h with h | h
    · exact .inl (List.mem_of_mem_take h)
    · exact .inr h
  · exact .inl (List.mem_of_mem_drop h)

theorem cells_at {x : AVal} {c : Cell} {m : Nm} (hc : c ∈ x.cells) (hm : c.at m) : x.at m:=by
  cases x with
  | c y=>simp only [AVal.cells,List.mem_singleton] at hc;subst hc;exact hm
  | agg cs=>exact ⟨c,hc,hm⟩
  | fn f cs=>simp [AVal.cells] at hc
  | accv n k=>simp [AVal.cells] at hc
  | accp n k=>simp [AVal.cells] at hc
  | tup xs=>simp [AVal.cells] at hc

theorem fillE_names {place : Nat→Option (Nat × Nat)} {r : Operand→AVal} : ∀ {ps : List (Nat × Operand)} {cs out : List Cell},fillE place r cs ps out→∀ c ∈ out,c ∈ cs ∨ ∃ p ∈ ps,c ∈ (r p.2).cells
  | [],cs,out,h,c,hc=>by simp only [fillE] at h;subst h;exact .inl hc
  | (i,x) :: rest,cs,out,⟨off,size,h1,h2,h3,h4,h5⟩,c,hc=>by
    rcases fillE_names h5 c hc with h | ⟨p,hp,hq⟩
    · rcases spl_mem h with h | h
      · exact .inl h
      · exact .inr ⟨(i,x),by simp,h⟩
    · exact .inr ⟨p,by simp [hp],hq⟩

theorem zero_at {e : TypeId} {z : List Cell} (h : zeroCells P e = some z) {c : Cell} (hc : c ∈ z) {m : Nm} : ¬ c.at m:=by
  unfold zeroCells at h
  cases e2 : zeroOf P e with
  | none=>rw [e2] at h;cases h
  | some v =>
    rw [e2] at h
    simp only [Option.map_some,Option.some.injEq] at h
    subst h
    obtain ⟨u,-,rfl⟩:=List.mem_map.1 hc
    exact cellC_nm u

theorem intE_at {op : BinOp} {k : IntKind} {a b : Int} {v : AVal} {m : Nm} (h : intE op k a b v) : ¬ v.at m:=by
  cases op <;> simp only [intE] at h <;> first
    | exact h.elim
    | (subst h;exact fun h=>h)
    | (obtain ⟨-,rfl⟩:=h;exact fun h=>h)
theorem shiftE_at {op : BinOp} {k : IntKind} {a b : Int} {v : AVal} {m : Nm} (h : shiftE op k a b v) : ¬ v.at m:=by
  cases op <;> simp only [shiftE] at h <;> first
    | exact h.elim
    | (obtain ⟨-,rfl⟩:=h;exact fun h=>h)
theorem boolE_at {op : BinOp} {a b : Bool} {v : AVal} {m : Nm} (h : boolE op a b v) : ¬ v.at m:=by
  cases op <;> simp only [boolE] at h <;> first
    | exact h.elim
    | (subst h;exact fun h=>h)

theorem PE0_names {r : Operand→AVal} {op : Op} {v : AVal} (h : PE0 P r op v) {m : Nm} (hm : v.at m) : ∃ x ∈ op.operands,(r x).at m:=by
  cases op with
  | move x=>simp only [PE0] at h;subst h;exact ⟨x,by simp [Op.operands],hm⟩
  | assign x=>simp only [PE0] at h;subst h;exact ⟨x,by simp [Op.operands],hm⟩
  | pick c a b =>
    simp only [PE0] at h
    split at h
    · subst h
      split at hm
      · exact ⟨a,by simp [Op.operands],hm⟩
      · exact ⟨b,by simp [Op.operands],hm⟩
    · exact h.elim
  | nilCheck x =>
    simp only [PE0] at h
    refine ⟨x,by simp [Op.operands],?_⟩
    split at h <;> first | exact h.elim | (rw [h] at hm;exact hm)
  | binOp op T x y T2 =>
    simp only [PE0] at h
    unfold binE at h
    split at h
    · split at h
      · exact absurd hm (shiftE_at h)
      · exact absurd hm (intE_at h.2)
    · exact absurd hm (boolE_at h.2)
    · exact h.elim
  | unOp op T x =>
    simp only [PE0] at h
    unfold unE at h
    split at h <;> first | exact h.elim | (subst h;exact hm.elim)
  | convert s d x =>
    simp only [PE0] at h
    unfold convE at h
    split at h
    · obtain ⟨-,k,-,rfl⟩:=h;exact hm.elim
    · exact h.elim
  | fieldAddr s x f =>
    obtain ⟨fs,fd,-,-,-,h⟩:=h
    refine ⟨x,by simp [Op.operands],?_⟩
    split at h
    · rename_i e;subst h;rw [e];exact hm
    · subst h;exact hm.elim
    · exact h.elim
  | field s x f =>
    obtain ⟨fs,fd,-,-,h⟩:=h
    refine ⟨x,by simp [Op.operands],?_⟩
    split at h
    · rename_i cs e
      rw [e]
      rcases h with ⟨-,-,rfl⟩ | ⟨-,y,hy,rfl⟩
      · obtain ⟨c,hc,hq⟩:=hm
        exact ⟨c,List.mem_of_mem_drop (List.mem_of_mem_take hc),hq⟩
      · exact ⟨y,List.mem_of_getElem? hy,hm⟩
    · exact h.elim
  | indexAddr t x i =>
    rcases h with h | h
    case inr =>
      obtain ⟨n,e,-,-,h⟩:=h
      split at h
      · obtain ⟨-,-,rfl⟩:=h;exact hm.elim
      · exact h.elim
    obtain ⟨e,-,-,h⟩:=h
    refine ⟨x,by simp [Op.operands],?_⟩
    split at h
    · obtain ⟨-,-,-,rfl⟩:=h;exact hm.elim
    · obtain ⟨-,-,-,rfl⟩:=h;exact hm.elim
    · obtain ⟨-,-,-,rfl⟩:=h;exact hm.elim
    · obtain ⟨-,-,-,rfl⟩:=h;exact hm.elim
    · rename_i e2 _;obtain ⟨-,-,rfl⟩:=h;rw [e2];exact hm
    · rename_i e2 _;obtain ⟨-,-,rfl⟩:=h;rw [e2];exact hm
    · exact h.elim
  | slice t x lo hi mx =>
    obtain ⟨rfl,e,-,-,h⟩:=h
    refine ⟨x,by simp [Op.operands],?_⟩
    split at h
    · obtain ⟨-,l,q,-,rfl⟩:=h;exact hm.elim
    · obtain ⟨-,l,q,-,rfl⟩:=h;exact hm.elim
    · obtain ⟨-,l,q,-,rfl⟩:=h;exact hm.elim
    · obtain ⟨-,l,q,-,rfl⟩:=h;exact hm.elim
    · rename_i e2;obtain ⟨l,q,-,rfl,-⟩:=h;rw [e2];exact hm
    · obtain ⟨l,q,-,rfl⟩:=h;exact hm.elim
    · exact h.elim
  | extract x i =>
    simp only [PE0] at h
    unfold extractE at h
    refine ⟨x,by simp [Op.operands],?_⟩
    split at h
    · rename_i xs e
      rw [e]
      cases v with
      | tup ys=>exact h.2.elim
      | c y=>exact ⟨_,List.mem_of_getElem? h.1,hm⟩
      | agg y=>exact ⟨_,List.mem_of_getElem? h.1,hm⟩
      | fn f y=>exact ⟨_,List.mem_of_getElem? h.1,hm⟩
      | accv y k=>exact ⟨_,List.mem_of_getElem? h.1,hm⟩
      | accp y k=>exact ⟨_,List.mem_of_getElem? h.1,hm⟩
    · exact h.elim
  | build t ps =>
    obtain ⟨fs,z,out,-,-,h3,-,h5,rfl⟩:=h
    obtain ⟨c,hc,hq⟩:=hm
    rcases fillE_names h5 c hc with h | ⟨p,hp,h⟩
    · exact absurd hq (zero_at h3 h)
    · exact ⟨p.2,mem_pairs hp,cells_at h hq⟩
  | index t x i =>
    obtain ⟨-,h⟩:=h
    split at h
    · obtain ⟨-,b,-,rfl⟩:=h;exact hm.elim
    · exact h.elim
  | makeFunc g first cap =>
    simp only [PE0] at h
    split at h
    · obtain ⟨-,cs,h2,-,rfl⟩:=h
      obtain ⟨c,hc,hq⟩:=hm
      have : AVal.c c ∈ cap.toList.map r:=by rw [h2];exact List.mem_map.2 ⟨c,hc,rfl⟩
      obtain ⟨x,hx,e⟩:=List.mem_map.1 this
      exact ⟨x,by simp [Op.operands];exact .inr (by simpa using hx),by rw [e];exact hq⟩
    · exact h.elim
  | call c =>
    simp only [PE0] at h
    split at h
    · unfold builtinE at h
      split at h
      · obtain ⟨-,h⟩:=h
        split at h <;> first | exact h.elim | (subst h;exact hm.elim)
      · unfold minE at h
        split at h <;> first | exact h.elim | (subst h;exact hm.elim)
      · unfold minE at h
        split at h <;> first | exact h.elim | (subst h;exact hm.elim)
      · exact h.elim
    · exact h.elim
  | _=>exact h.elim

theorem FE_names {r : Operand→AVal} {op : Op} {v : AVal} (h : FE P r op v) {m : Nm} : ¬ v.at m:=by
  cases op with
  | binOp op T x y T2 =>
    revert h
    show fbinE op (r x) (r y) v→_
    unfold fbinE
    split
    · split <;> first | (rintro rfl;exact fun h=>h) | (rintro ⟨-,rfl⟩;exact fun h=>h)
    · split <;> first | (rintro rfl;exact fun h=>h) | exact fun h=>h.elim
    · exact fun h=>h.elim
  | unOp op T x =>
    revert h
    show funE op (r x) v→_
    unfold funE
    split <;> first | (rintro rfl;exact fun h=>h) | exact fun h=>h.elim
  | convert s d x =>
    revert h
    show fconvE P s d (r x) v→_
    unfold fconvE
    split
    · rintro ⟨-,-,rfl⟩;exact fun h=>h
    · rintro ⟨-,⟨-,rfl⟩ | ⟨k,p,n,-,-,-,-,-,rfl⟩⟩ <;> exact fun h=>h
    · exact fun h=>h.elim
  | call c =>
    obtain ⟨callee,args,tys⟩:=c
    cases callee with
    | builtin b =>
      revert h
      show fbuiltE b (args.toList.map r) v→_
      unfold fbuiltE
      split <;> first | (rintro rfl;exact fun h=>h) | exact fun h=>h.elim
    | value f=>exact h.elim
    | invoke rc m=>exact h.elim
  | _=>exact h.elim
theorem PE_names {r : Operand→AVal} {op : Op} {v : AVal} (h : PE P r op v) {m : Nm} (hm : v.at m) : ∃ x ∈ op.operands,(r x).at m:=h.elim (fun h=>PE0_names h hm) (fun h=>absurd hm (FE_names h))
end
end Go.Abs

/-
  Operations that may change places.
-/
namespace Go.Abs
open Go

theorem upd_comm (S : Store) {m n : Nm} (a b : AObj) (h : m ≠ n) : upd (upd S m a) n b = upd (upd S n b) m a:=by
  funext q;simp only [upd]
  by_cases h1 : q = m <;> by_cases h2 : q = n <;> simp_all

theorem updL_upd (ups : List (Nm × AObj)) : ∀ (S : Store) (n : Nm) (b : AObj),(∀ p ∈ ups,p.1 ≠ n)→updL (upd S n b) ups = upd (updL S ups) n b:=by
  induction ups with
  | nil=>intro S n b _;rfl
  | cons p ups ih =>
    intro S n b h
    show updL (upd (upd S n b) p.1 p.2) ups = upd (updL (upd S p.1 p.2) ups) n b
    rw [upd_comm S b p.2 (fun e=>h p (by simp) e.symm),ih _ _ _ (fun q hq=>h q (by simp [hq]))]

theorem updL_ne (ups : List (Nm × AObj)) : ∀ (S : Store) (n : Nm),(∀ p ∈ ups,p.1 ≠ n)→updL S ups n = S n:=by
  induction ups with
  | nil=>intro S n _;rfl
  | cons p ups ih =>
    intro S n h
    show updL (upd S p.1 p.2) ups n = S n
    rw [ih _ _ (fun q hq=>h q (by simp [hq])),upd_ne S p.2 (fun e=>h p (by simp) e.symm)]

theorem updL_dom (ups : List (Nm × AObj)) : ∀ (S : Store) (n : Nm),S n ≠ none→updL S ups n ≠ none:=by
  induction ups with
  | nil=>intro S n h;exact h
  | cons p ups ih =>
    intro S n h
    refine ih _ _ ?_
    unfold upd;split <;> simp_all

theorem updL_mem (ups : List (Nm × AObj)) : ∀ (S : Store) (n : Nm) (o : AObj),(n,o) ∈ ups→updL S ups n ≠ none:=by
  induction ups with
  | nil=>intro S n o h;cases h
  | cons p ups ih =>
    intro S n o h
    rcases List.mem_cons.1 h with rfl | h
    · exact updL_dom ups _ _ (by rw [upd_same];simp)
    · exact ih _ _ _ h

theorem updL_get (ups : List (Nm × AObj)) : ∀ (S : Store) (n : Nm) (o : AObj),updL S ups n = some o→S n = some o ∨ (n,o) ∈ ups:=by
  induction ups with
  | nil=>intro S n o h;exact .inl h
  | cons p ups ih =>
    intro S n o h
    rcases ih _ _ _ h with h | h
    · by_cases e : n = p.1
      · subst e;rw [upd_same] at h;obtain rfl:=Option.some.inj h;exact .inr (by simp)
      · rw [upd_ne S p.2 e] at h;exact .inl h
    · exact .inr (by simp [h])

section
variable {P : Program} {mu : FuncId→Bool}

theorem objDom {S : Store} {n m : Nm} (h : S n = none) {o : AObj} (hm : S m = some o) : m ≠ n:=fun e=>by subst e;rw [h] at hm;cases hm

theorem loadE_up {S : Store} {n : Nm} {b : AObj} {t : TypeId} {a v : AVal} (hn : S n = none) (h : loadE P S t a v) : loadE P (upd S n b) t a v:=by
  unfold loadE at *
  split at h
  · obtain ⟨o,hm,h⟩:=h
    exact ⟨o,by rw [upd_ne S b (objDom hn hm)];exact hm,h⟩
  · exact h
  · obtain ⟨ty,sz,L,i,j,c,hm,h⟩:=h
    exact ⟨ty,sz,L,i,j,c,by rw [upd_ne S b (objDom hn hm)];exact hm,h⟩
  · exact h.elim

theorem loadE_down {S : Store} {n : Nm} {b : AObj} {t : TypeId} {a v : AVal} (ha : ¬ a.at n) (h : loadE P (upd S n b) t a v) : loadE P S t a v:=by
  unfold loadE at *
  split at h
  · rename_i m off
    obtain ⟨o,hm,h⟩:=h
    exact ⟨o,by rw [upd_ne S b (fun e=>ha (by rw [← e];exact rfl))] at hm;exact hm,h⟩
  · exact h
  · obtain ⟨ty,sz,L,i,j,c,hm,h⟩:=h
    exact ⟨ty,sz,L,i,j,c,by rw [upd_ne S b (fun e=>ha (by rw [← e];exact rfl))] at hm;exact hm,h⟩
  · exact h.elim

theorem storeE_up {S S' : Store} {n : Nm} {b : AObj} {t : TypeId} {a x : AVal} (hn : S n = none) (h : storeE P S t a x S') : storeE P (upd S n b) t a x (upd S' n b):=by
  unfold storeE at *
  split at h
  · rcases h with ⟨ty,cs,hm,h1,h2,h3,h4,rfl⟩ | ⟨ty,k,L,y,hm,h2,h3,h4,rfl⟩ | ⟨ty,cs,y,hm,h2,h3,h1,h4,rfl⟩
    · have q:=objDom hn hm
      exact .inl ⟨ty,cs,by rw [upd_ne S b q];exact hm,h1,h2,h3,h4,upd_comm _ _ _ q⟩
    · have q:=objDom hn hm
      exact .inr (.inl ⟨ty,k,L,y,by rw [upd_ne S b q];exact hm,h2,h3,h4,upd_comm _ _ _ q⟩)
    · have q:=objDom hn hm
      exact .inr (.inr ⟨ty,cs,y,by rw [upd_ne S b q];exact hm,h2,h3,h1,h4,upd_comm _ _ _ q⟩)
  · exact h.elim

theorem storeE_down {S S' : Store} {n : Nm} {b : AObj} {t : TypeId} {a x : AVal} (ha : ¬ a.at n) (hn : S n = none) (h : storeE P (upd S n b) t a x S') : ∃ S1,storeE P S t a x S1∧S' = upd S1 n b∧S1 n = none:=by
  unfold storeE at *
  split at h
  · rename_i m off
    have q : m ≠ n:=fun e=>ha (by rw [← e];exact rfl)
    rcases h with ⟨ty,cs,hm,h1,h2,h3,h4,rfl⟩ | ⟨ty,k,L,y,hm,h2,h3,h4,rfl⟩ | ⟨ty,cs,y,hm,h2,h3,h1,h4,rfl⟩
    · rw [upd_ne S b q] at hm
      exact ⟨_,.inl ⟨ty,cs,hm,h1,h2,h3,h4,rfl⟩,(upd_comm _ _ _ q).symm,by rw [upd_ne _ _ (fun e=>q e.symm)];exact hn⟩
    · rw [upd_ne S b q] at hm
      exact ⟨_,.inr (.inl ⟨ty,k,L,y,hm,h2,h3,h4,rfl⟩),(upd_comm _ _ _ q).symm,by rw [upd_ne _ _ (fun e=>q e.symm)];exact hn⟩
    · rw [upd_ne S b q] at hm
      exact ⟨_,.inr (.inr ⟨ty,cs,y,hm,h2,h3,h1,h4,rfl⟩),(upd_comm _ _ _ q).symm,by rw [upd_ne _ _ (fun e=>q e.symm)];exact hn⟩
  · exact h.elim

theorem eff_pure {fr : Fram} {S S' : Store} {o : Oper} {v : AVal} (hk : kind mu o.op = .pure) (h : eff P mu fr S o v S') : S' = S∧∀ S1,eff P mu fr S1 o v S1:=by
  obtain ⟨dst,op,ty,pos,after,guard⟩:=o
  cases op with
  | call c =>
    obtain ⟨callee,args,tys⟩:=c
    cases callee with
    | value f=>simp only [kind,kindC] at hk;split at hk <;> first | (split at hk <;> cases hk) | cases hk
    | invoke rc m=>exact ⟨h.2,fun S1=>⟨h.1,rfl⟩⟩
    | builtin b=>exact ⟨h.2,fun S1=>⟨h.1,rfl⟩⟩
  | load _ _=>cases hk
  | store _ _ _=>cases hk
  | alloc _=>cases hk
  | box _ _=>cases hk
  | buildSlice _ _ _=>cases hk
  | makeSlice _ _ _=>cases hk
  | _=>exact ⟨h.2,fun S1=>⟨h.1,rfl⟩⟩

theorem eff_new {fr : Fram} {S S' : Store} {o : Oper} {v : AVal} (hk : kind mu o.op = .new) (h : eff P mu fr S o v S') :
    ∃ d ob,o.dst = some d∧S (.loc d) = none∧S' = upd S (.loc d) ob∧∀ S1,S1 (.loc d) = none→eff P mu fr S1 o v (upd S1 (.loc d) ob):=by
  obtain ⟨dst,op,ty,pos,after,guard⟩:=o
  cases op with
  | alloc _=>obtain ⟨d,ob,h1,h2,h3,h4⟩:=h;exact ⟨d,ob,h1,h2,h4,fun S1 hS=>⟨d,ob,h1,hS,h3,rfl⟩⟩
  | box _ _=>obtain ⟨d,ob,h1,h2,h3,h4⟩:=h;exact ⟨d,ob,h1,h2,h4,fun S1 hS=>⟨d,ob,h1,hS,h3,rfl⟩⟩
  | buildSlice _ _ _=>obtain ⟨d,ob,h1,h2,h3,h4⟩:=h;exact ⟨d,ob,h1,h2,h4,fun S1 hS=>⟨d,ob,h1,hS,h3,rfl⟩⟩
  | makeSlice _ _ _=>obtain ⟨d,ob,h1,h2,h3,h4⟩:=h;exact ⟨d,ob,h1,h2,h4,fun S1 hS=>⟨d,ob,h1,hS,h3,rfl⟩⟩
  | call c =>
    obtain ⟨callee,args,tys⟩:=c
    cases callee with
    | value f=>simp only [kind,kindC] at hk;split at hk <;> first | (split at hk <;> cases hk) | cases hk
    | invoke rc m=>cases hk
    | builtin b=>cases b <;> cases hk
  | _=>cases hk

def opsNo (fr : Fram) (o : Oper) (n : Nm) : Prop:=∀ x ∈ o.op.operands,¬ (look fr x).at n

theorem call_no {fr : Fram} {o : Oper} {n : Nm} {f : Operand} {args : Array Operand} {tys : Array TypeId} (ho : o.op = .call ⟨.value f,args,tys⟩) (hno : opsNo fr o n) {g : FuncId} {caps : List Cell} (hf : look fr f = .fn g caps)
    {as' : List AVal} (hle : ALes (args.toList.map (look fr) ++ caps.map .c) as') : ¬ ∃ x ∈ as',x.at n:=by
  intro h
  obtain ⟨x,hx,hq⟩:=hle.at h
  rcases List.mem_append.1 hx with hx | hx
  · obtain ⟨y,hy,rfl⟩:=List.mem_map.1 hx
    exact hno y (by rw [ho];simp [Op.operands,Call.operands];exact .inr (by simpa using hy)) hq
  · obtain ⟨c,hc,rfl⟩:=List.mem_map.1 hx
    exact hno f (by rw [ho];simp [Op.operands,Call.operands]) (by rw [hf];exact ⟨c,hc,hq⟩)

theorem rch_no {Φ S : Store} {as' : List AVal} {n : Nm} (hcl : ∀ m b,S m = some b→b.cl S) (hn : S n = none) (hq : ¬ ∃ x ∈ as',x.at n) {S1 : Store} (h1 : ∀ m,m ≠ n→S1 m = S m) (h : ∀ m,Rch Φ as' m→S1 m = Φ m) : ∀ m,Rch Φ as' m→m ≠ n:=by
  intro m hm
  induction hm with
  | base hx hm=>intro e;subst e;exact hq ⟨_,hx,hm⟩
  | step hr ho hc hqq ih =>
    rename_i m q o c
    intro e
    subst e
    have h2 : S m = some o:=by rw [← h1 m ih,h m hr];exact ho
    exact AObj.cl_cls.1 (hcl m o h2) c hc _ hqq hn

theorem nmOf_ne {d : Option Nat} {k : Nat} (h : d ≠ some k) : nmOf d ≠ .loc k:=by
  cases d with
  | none=>simp [nmOf]
  | some q=>simp only [nmOf,ne_eq,Nm.loc.injEq];exact fun e=>h (by rw [e])

theorem eff_up {fr : Fram} {S S' : Store} {o : Oper} {v : AVal} {k : Nat} {b : AObj} (hcl : ∀ m b,S m = some b→b.cl S) (hn : S (.loc k) = none) (hd : o.dst ≠ some k) (hno : opsNo fr o (.loc k)) (h : eff P mu fr S o v S') :
    eff P mu fr (upd S (.loc k) b) o v (upd S' (.loc k) b):=by
  obtain ⟨dst,op,ty,pos,after,guard⟩:=o
  have made : ∀ {op : Op},(∃ d ob,dst = some d∧S (.loc d) = none∧newE P (look fr) d op v ob∧S' = upd S (.loc d) ob) →
      ∃ d ob,dst = some d∧(upd S (.loc k) b) (.loc d) = none∧newE P (look fr) d op v ob∧upd S' (.loc k) b = upd (upd S (.loc k) b) (.loc d) ob:=by
    rintro op ⟨d,ob,rfl,h2,h3,rfl⟩
    have q : Nm.loc d ≠ Nm.loc k:=fun e=>hd (by injection e with e;subst e;rfl)
    exact ⟨d,ob,rfl,by rw [upd_ne _ _ q];exact h2,h3,upd_comm _ _ _ q⟩
  cases op with
  | load t a=>obtain ⟨h1,rfl⟩:=h;exact ⟨loadE_up hn h1,rfl⟩
  | store t a x=>obtain ⟨h1,rfl⟩:=h;exact ⟨storeE_up hn h1,rfl⟩
  | alloc e=>exact made h
  | box e x=>exact made h
  | buildSlice t n ps=>exact made h
  | makeSlice t l c=>exact made h
  | call c =>
    obtain ⟨callee,args,tys⟩:=c
    cases callee with
    | value f =>
      obtain ⟨g,caps,as',Φ,res,ups,h1,h2,h3,h4,h5,rfl,rfl,h6,h7,h8,h9⟩:=h
      have hq:=call_no (f:=f) (args:=args) (tys:=tys) rfl hno h1 h2
      have hnd:=nmOf_ne (d:=dst) hd
      have hrc:=rch_no hcl hn hq (fun _ _=>rfl) h4
      refine ⟨g,caps,as',Φ,res,ups,h1,h2,h3,fun m hm=>?_,⟨by rw [upd_ne _ _ hnd];exact h5.1,fun i=>by rw [upd_ne _ _ (fun e=>by cases e)];exact h5.2 i⟩,rfl,?_,h6,h7,h8,h9⟩
      · rw [upd_ne _ _ (hrc m hm)];exact h4 m hm
      · refine (updL_upd _ _ _ _ (fun p hp e=>?_)).symm
        rcases h6 p hp with q | ⟨i,q⟩ | ⟨-,q⟩
        · exact hnd (by rw [← q,e])
        · rw [q] at e;cases e
        · exact hrc _ q e
    | invoke rc m=>obtain ⟨h1,rfl⟩:=h;exact ⟨h1,rfl⟩
    | builtin b=>obtain ⟨h1,rfl⟩:=h;exact ⟨h1,rfl⟩
  | _=>obtain ⟨h1,rfl⟩:=h;exact ⟨h1,rfl⟩

theorem eff_down {fr : Fram} {S S1 : Store} {o : Oper} {v : AVal} {k : Nat} {b : AObj} (hcl : ∀ m b,S m = some b→b.cl S) (hn : S (.loc k) = none) (hd : o.dst ≠ some k) (hno : opsNo fr o (.loc k)) (h : eff P mu fr (upd S (.loc k) b) o v S1) :
    ∃ S',eff P mu fr S o v S'∧S1 = upd S' (.loc k) b∧S' (.loc k) = none:=by
  obtain ⟨dst,op,ty,pos,after,guard⟩:=o
  have made : ∀ {op : Op},(∃ d ob,dst = some d∧(upd S (.loc k) b) (.loc d) = none∧newE P (look fr) d op v ob∧S1 = upd (upd S (.loc k) b) (.loc d) ob) →
      ∃ S',(∃ d ob,dst = some d∧S (.loc d) = none∧newE P (look fr) d op v ob∧S' = upd S (.loc d) ob)∧S1 = upd S' (.loc k) b∧S' (.loc k) = none:=by
    rintro op ⟨d,ob,rfl,h2,h3,rfl⟩
    have q : Nm.loc d ≠ Nm.loc k:=fun e=>hd (by injection e with e;subst e;rfl)
    exact ⟨_,⟨d,ob,rfl,by rw [upd_ne _ _ q] at h2;exact h2,h3,rfl⟩,(upd_comm _ _ _ q).symm,by rw [upd_ne _ _ (fun e=>q e.symm)];exact hn⟩
  cases op with
  | load t a=>obtain ⟨h1,rfl⟩:=h;exact ⟨S,⟨loadE_down (hno a (by simp [Op.operands])) h1,rfl⟩,rfl,hn⟩
  | store t a x =>
    obtain ⟨h1,rfl⟩:=h
    obtain ⟨S2,h2,h3,h4⟩:=storeE_down (hno a (by simp [Op.operands])) hn h1
    exact ⟨S2,⟨h2,rfl⟩,h3,h4⟩
  | alloc e=>exact made h
  | box e x=>exact made h
  | buildSlice t n ps=>exact made h
  | makeSlice t l c=>exact made h
  | call c =>
    obtain ⟨callee,args,tys⟩:=c
    cases callee with
    | value f =>
      obtain ⟨g,caps,as',Φ,res,ups,h1,h2,h3,h4,h5,rfl,rfl,h6,h7,h8,h9⟩:=h
      have hq:=call_no (f:=f) (args:=args) (tys:=tys) rfl hno h1 h2
      have hnd:=nmOf_ne (d:=dst) hd
      have hrc:=rch_no hcl hn hq (fun m hm=>upd_ne _ _ hm) h4
      have hups : ∀ p ∈ ups (nmOf dst),p.1 ≠ Nm.loc k:=fun p hp e=>by
        rcases h6 p hp with q | ⟨i,q⟩ | ⟨-,q⟩
        · exact hnd (by rw [← q,e])
        · rw [q] at e;cases e
        · exact hrc _ q e
      refine ⟨updL S (ups (nmOf dst)),⟨g,caps,as',Φ,res,ups,h1,h2,h3,fun m hm=>?_,⟨by have:=h5.1;rwa [upd_ne _ _ hnd] at this,fun i=>by have:=h5.2 i;rwa [upd_ne _ _ (fun e=>by cases e)] at this⟩,rfl,rfl,h6,h7,h8,h9⟩,updL_upd _ _ _ _ hups,by rw [updL_ne _ _ _ hups];exact hn⟩
      have:=h4 m hm
      rwa [upd_ne _ _ (hrc m hm)] at this
    | invoke rc m=>obtain ⟨h1,rfl⟩:=h;exact ⟨S,⟨h1,rfl⟩,rfl,hn⟩
    | builtin b=>obtain ⟨h1,rfl⟩:=h;exact ⟨S,⟨h1,rfl⟩,rfl,hn⟩
  | _=>obtain ⟨h1,rfl⟩:=h;exact ⟨S,⟨h1,rfl⟩,rfl,hn⟩

theorem eff_read {fr : Fram} {S S' : Store} {o : Oper} {v : AVal} (hk : kind mu o.op = .read) (h : eff P mu fr S o v S') :
    S' = S ∨ ∃ d ob,o.dst = some d∧S (.loc d) = none∧S' = upd S (.loc d) ob:=by
  obtain ⟨dst,op,ty,pos,after,guard⟩:=o
  cases op with
  | load t a=>exact .inl h.2
  | call c =>
    obtain ⟨callee,args,tys⟩:=c
    cases callee with
    | value f =>
      obtain ⟨g,caps,as',Φ,res,ups,h1,h2,h3,h4,h5,rfl,rfl,h6,h7,h8,h9⟩:=h
      simp only [kind,kindC] at hk
      split at hk
      · rename_i q
        have hg : mu g = false:=by
          simp only [look] at h1
          injection h1 with h1 _
          subst h1
          split at hk
          · cases hk
          · rename_i hm;simpa using hm
        rcases h7 with e | e | ⟨d,o,rfl,e⟩
        · rw [e];exact .inl rfl
        · rw [hg] at e;cases e
        · rw [e];exact .inr ⟨d,o,rfl,h5.1,rfl⟩
      · cases hk
    | invoke rc m=>cases hk
    | builtin b=>cases b <;> cases hk
  | _=>cases hk
end
end Go.Abs

/-
  Regions that draw their order: one order serves for all.
-/
namespace Go.Abs
open Go

abbrev undefA : AVal:=.c (.sc undef)

structure WF (fr : Fram) (S : Store) : Prop where
  f : ∀ t m,(fr t).at m→S m ≠ none
  o : ∀ n b,S n = some b→b.cl S

section
variable {P : Program} {mu : FuncId→Bool}

theorem upd_dom {S : Store} {n m : Nm} {b : AObj} (h : S m ≠ none) : upd S n b m ≠ none:=by
  unfold upd;split
  · simp
  · exact h

theorem eff_dom {fr : Fram} {S S' : Store} {o : Oper} {v : AVal} (h : eff P mu fr S o v S') {m : Nm} (hm : S m ≠ none) : S' m ≠ none:=by
  obtain ⟨dst,op,ty,pos,after,guard⟩:=o
  cases op with
  | load t a=>obtain ⟨-,rfl⟩:=h;exact hm
  | store t a x =>
    obtain ⟨h1,-⟩:=h
    unfold storeE at h1
    split at h1
    · rcases h1 with ⟨_,_,_,_,_,_,_,rfl⟩ | ⟨_,_,_,_,_,_,_,_,rfl⟩ | ⟨_,_,_,_,_,_,_,_,rfl⟩ <;> exact upd_dom hm
    · exact h1.elim
  | alloc e=>obtain ⟨d,ob,_,_,_,rfl⟩:=h;exact upd_dom hm
  | box e x=>obtain ⟨d,ob,_,_,_,rfl⟩:=h;exact upd_dom hm
  | buildSlice t n ps=>obtain ⟨d,ob,_,_,_,rfl⟩:=h;exact upd_dom hm
  | makeSlice t l c=>obtain ⟨d,ob,_,_,_,rfl⟩:=h;exact upd_dom hm
  | call c =>
    obtain ⟨callee,args,tys⟩:=c
    cases callee with
    | value f=>obtain ⟨g,caps,as',Φ,res,ups,h1,h2,h3,h4,h5,rfl,rfl,-⟩:=h;exact updL_dom _ _ _ hm
    | invoke rc m=>obtain ⟨-,rfl⟩:=h;exact hm
    | builtin b=>obtain ⟨-,rfl⟩:=h;exact hm
  | _=>obtain ⟨-,rfl⟩:=h;exact hm

theorem WF.look {fr : Fram} {S : Store} (h : WF fr S) (x : Operand) {m : Nm} (hm : (look fr x).at m) : S m ≠ none:=by
  cases x with
  | tmp t=>exact h.f t m hm
  | const v=>exact absurd hm (cellC_nm v)
  | global g=>simp only [Abs.look] at hm;split at hm <;> exact hm.elim
  | func f=>obtain ⟨c,hc,-⟩:=hm;simp at hc

theorem WF.no {fr : Fram} {S : Store} (h : WF fr S) {n : Nm} (hn : S n = none) (o : Oper) : opsNo fr o n:=fun x _ hx=>h.look x hx hn

theorem cl_mono {S S' : Store} (h : ∀ m,S m ≠ none→S' m ≠ none) {b : AObj} (hb : b.cl S) : b.cl S':=by
  cases b with
  | cells ty cs=>exact fun x hx m hm=>h m (hb x hx m hm)
  | ints ty k L=>trivial
  | fix x=>trivial
  | row ty cs=>exact fun x hx m hm=>h m (hb x hx m hm)
  | acc ty k L=>exact fun c hc x hx m hm=>h m (hb c hc x hx m hm)

theorem newE_names {r : Operand→AVal} {d : Nat} {op : Op} {v : AVal} {ob : AObj} (h : newE P r d op v ob) :
    (∀ m,v.at m→m = .loc d)∧∀ x ∈ ob.cls,∀ m,x.at m→∃ y ∈ op.operands,(r y).at m:=by
  cases op with
  | alloc e =>
    obtain ⟨z,h1,-,rfl,rfl⟩:=h
    exact ⟨fun m hm=>hm.symm,fun x hx m hm=>absurd hm (zero_at h1 hx)⟩
  | box e x =>
    obtain ⟨h1,rfl,rfl⟩:=h
    exact ⟨fun m hm=>hm.symm,fun y hy m hm=>⟨x,by simp [Op.operands],cells_at hy hm⟩⟩
  | buildSlice t n ps =>
    obtain ⟨e,z,out,-,-,-,h4,-,-,h7,h8⟩:=h
    have key : ∀ x ∈ out,∀ m,x.at m→∃ y ∈ (Op.buildSlice t n ps).operands,(r y).at m:=by
      intro x hx m hm
      rcases fillE_names h7 x hx with q | ⟨p,hp,q⟩
      · unfold rep at q
        obtain ⟨l,hl,q⟩:=List.mem_flatten.1 q
        rw [(List.mem_replicate.1 hl).2] at q
        exact absurd hm (zero_at h4 q)
      · exact ⟨p.2,mem_pairs hp,cells_at q hm⟩
    rcases h8 with ⟨rfl,h8⟩ | ⟨R,rfl,-,-,rfl,rfl⟩
    · refine ⟨fun m hm=>hm.symm,fun x hx m hm=>?_⟩
      rcases h8 with rfl | ⟨k,L,-,rfl⟩
      · exact key x hx m hm
      · cases hx
    · exact ⟨fun m hm=>hm.symm,key⟩
  | makeSlice t l c =>
    obtain ⟨e,z,-,-,h4,-,-,h7⟩:=h
    split at h7
    · obtain ⟨-,-,-,-,⟨rfl,h8⟩ | ⟨-,rfl,rfl⟩⟩:=h7
      · refine ⟨fun m hm=>hm.symm,fun x hx m hm=>?_⟩
        rcases h8 with rfl | ⟨k,y,-,rfl⟩
        · change x ∈ rep _ z at hx
          unfold rep at hx
          obtain ⟨l,hl,q⟩:=List.mem_flatten.1 hx
          rw [(List.mem_replicate.1 hl).2] at q
          exact absurd hm (zero_at h4 q)
        · cases hx
      · refine ⟨fun m hm=>hm.symm,fun x hx m hm=>?_⟩
        obtain ⟨l,hl,q⟩:=List.mem_flatten.1 hx
        rw [(List.mem_replicate.1 hl).2] at q
        exact absurd hm (zero_at h4 q)
    · exact h7.elim
  | _=>exact h.elim

theorem eff_WF {fr : Fram} {S S' : Store} {o : Oper} {v : AVal} (hw : WF fr S) (h : eff P mu fr S o v S') : (∀ m,v.at m→S' m ≠ none)∧∀ n b,S' n = some b→b.cl S':=by
  have hdom : ∀ m,S m ≠ none→S' m ≠ none:=fun m hm=>eff_dom h hm
  obtain ⟨dst,op,ty,pos,after,guard⟩:=o
  have plain : ∀ {op : Op},PE P (look fr) op v→S' = S→(∀ m,v.at m→S' m ≠ none)∧∀ n b,S' n = some b→b.cl S':=by
    rintro op hp rfl
    exact ⟨fun m hm=>by obtain ⟨x,-,q⟩:=PE_names hp hm;exact hw.look x q,hw.o⟩
  have made : ∀ {op : Op},(∃ d ob,dst = some d∧S (.loc d) = none∧newE P (look fr) d op v ob∧S' = upd S (.loc d) ob)→(∀ m,v.at m→S' m ≠ none)∧∀ n b,S' n = some b→b.cl S':=by
    rintro op ⟨d,ob,-,h2,h3,rfl⟩
    obtain ⟨h4,h5⟩:=newE_names h3
    refine ⟨fun m hm=>by rw [h4 m hm,upd_same];simp,fun n b hb=>?_⟩
    by_cases e : n = .loc d
    · subst e
      rw [upd_same] at hb
      obtain rfl:=Option.some.inj hb
      exact AObj.cl_cls.2 fun x hx m hm=>by obtain ⟨y,-,q⟩:=h5 x hx m hm;exact hdom m (hw.look y q)
    · rw [upd_ne _ _ e] at hb;exact cl_mono hdom (hw.o n b hb)
  cases op with
  | load t a =>
    obtain ⟨h1,rfl⟩:=h
    refine ⟨fun m hm=>?_,hw.o⟩
    unfold loadE at h1
    split at h1
    · rename_i n off ea
      obtain ⟨b,hb,h1⟩:=h1
      have hc:=hw.o n b hb
      rcases h1 with ⟨-,-,ty,cs,rfl,-,rfl⟩ | ⟨-,x,hx,rfl⟩
      · obtain ⟨c,hc2,q⟩:=hm
        exact hc c (List.mem_of_mem_drop (List.mem_of_mem_take hc2)) m q
      · cases b with
        | cells ty cs=>exact hc x (List.mem_of_getElem? hx) m hm
        | ints ty k L =>
          simp only [objCell,Option.map_eq_some_iff] at hx
          obtain ⟨y,-,rfl⟩:=hx
          exact hm.elim
        | acc ty k L=>cases hx
        | fix x=>cases hx
        | row ty cs=>exact hc x (List.mem_of_getElem? hx) m hm
    · rcases h1 with ⟨-,-,-,rfl⟩ | ⟨-,x,-,rfl⟩
      · obtain ⟨c,hc2,q⟩:=hm
        obtain ⟨y,-,rfl⟩:=List.mem_map.1 hc2
        cases y <;> exact q.elim
      · cases x <;> exact hm.elim
    · obtain ⟨ty,sz,L,i,j,c,hb,-,hL,h1⟩:=h1
      have hc:=hw.o _ _ hb
      rcases h1 with ⟨-,-,-,rfl⟩ | ⟨-,x,hx,rfl⟩
      · obtain ⟨y,hc2,q⟩:=hm
        exact hc c (List.mem_of_getElem? hL) y (List.mem_of_mem_drop (List.mem_of_mem_take hc2)) m q
      · exact hc c (List.mem_of_getElem? hL) x (List.mem_of_getElem? hx) m hm
    · exact h1.elim
  | store t a x =>
    obtain ⟨h1,rfl⟩:=h
    refine ⟨fun m hm=>hm.elim,fun n b hb=>?_⟩
    unfold storeE at h1
    split at h1
    · rename_i p off ea
      rcases h1 with ⟨ty,cs,hm,h2,h3,h4,h5,rfl⟩ | ⟨ty,k,L,y,hm,h3,h4,h5,rfl⟩ | ⟨ty,cs,y,hm,h3,hxy,h4,h5,rfl⟩
      · by_cases e : n = p
        · subst e
          rw [upd_same] at hb
          obtain rfl:=Option.some.inj hb
          intro c hc m hq
          rcases spl_mem hc with q | q
          · exact hdom m (hw.o _ _ hm c q m hq)
          · exact hdom m (hw.look x (cells_at q hq))
        · rw [upd_ne _ _ e] at hb;exact cl_mono hdom (hw.o n b hb)
      · by_cases e : n = p
        · subst e
          rw [upd_same] at hb
          obtain rfl:=Option.some.inj hb
          trivial
        · rw [upd_ne _ _ e] at hb;exact cl_mono hdom (hw.o n b hb)
      · by_cases e : n = p
        · subst e
          rw [upd_same] at hb
          obtain rfl:=Option.some.inj hb
          intro c hc m hq
          rcases List.mem_or_eq_of_mem_set hc with q | rfl
          · exact hdom m (hw.o _ _ hm c q m hq)
          · exact hdom m (hw.look x (by rw [hxy];exact hq))
        · rw [upd_ne _ _ e] at hb;exact cl_mono hdom (hw.o n b hb)
    · exact h1.elim
  | alloc e=>exact made h
  | box e x=>exact made h
  | buildSlice t n ps=>exact made h
  | makeSlice t l c=>exact made h
  | call c =>
    obtain ⟨callee,args,tys⟩:=c
    cases callee with
    | value f =>
      obtain ⟨g,caps,as',Φ,res,ups,h1,h2,h3,h4,h5,rfl,rfl,h6,h7,h8,h9⟩:=h
      have hargs : ∀ m,(∃ x ∈ as',x.at m)→S m ≠ none:=by
        intro m hm
        obtain ⟨x,hx,hq⟩:=h2.at hm
        rcases List.mem_append.1 hx with hx | hx
        · obtain ⟨y,-,rfl⟩:=List.mem_map.1 hx
          exact hw.look y hq
        · obtain ⟨c,hc,rfl⟩:=List.mem_map.1 hx
          exact hw.look f (by rw [h1];exact ⟨c,hc,hq⟩)
      have hrch : ∀ m,Rch Φ as' m→S m ≠ none:=by
        intro m hm
        induction hm with
        | base hx hm=>exact hargs _ ⟨_,hx,hm⟩
        | step hr ho hc hqq ih =>
          rename_i m q o c
          exact AObj.cl_cls.1 (hw.o m o (by rw [h4 m hr];exact ho)) c hc _ hqq
      refine ⟨fun m hm=>?_,fun n b hb=>?_⟩
      · rcases h8 m hm with ⟨o,ho⟩ | q
        · exact updL_mem _ _ _ _ ho
        · exact hdom m (hrch m q)
      · rcases updL_get _ _ _ _ hb with q | q
        · exact cl_mono hdom (hw.o n b q)
        · refine AObj.cl_cls.2 fun x hx m hm=>?_
          rcases h9 _ q x hx m hm with ⟨o,ho⟩ | q2
          · exact updL_mem _ _ _ _ ho
          · exact hdom m (hrch m q2)
    | invoke rc m=>exact plain h.1 h.2
    | builtin b=>exact plain h.1 h.2
  | _=>exact plain h.1 h.2

/-! ### Guards -/
def gd (ops : Array Oper) (fr : Fram) (o : Oper) : Option Bool :=
  match o.guard with
  | none=>some true
  | some (j,want)=>match yA ops fr j with
    | some (some b)=>some (b == want)
    | some none=>some false
    | none=>none

def isApp (mu : FuncId→Bool) (o : Oper) : Prop:=kind mu o.op = .app

def aRes (P : Program) (mu : FuncId→Bool) (ops : Array Oper) (o : Oper) (fr : Fram) (S : Store) (v : AVal) (S' : Store) : Prop :=
  (gd ops fr o = some true∧eff P mu fr S o v S') ∨ (gd ops fr o = some false∧v = undefA∧S' = S)

theorem aExec_eff {o : Oper} (hk : ¬ isApp mu o) {st st' : St} : aExec P mu o st st' ↔ ∃ v S',eff P mu st.fr st.sg o v S'∧st' = ⟨putF st.fr o.dst v,S'⟩:=by
  obtain ⟨dst,op,ty,pos,after,guard⟩:=o
  cases op with
  | call c =>
    have hk' : ¬ kindC mu c = .app:=hk
    simp only [aExec,if_neg hk']
  | _=>rfl

theorem aStep_res {ops : Array Oper} {o : Oper} (hk : ¬ isApp mu o) {st st' : St} : aStep P mu ops o st st' ↔ ∃ v S',aRes P mu ops o st.fr st.sg v S'∧st' = ⟨putF st.fr o.dst v,S'⟩:=by
  unfold aStep aRes gd
  cases hg : o.guard with
  | none=>simp [aExec_eff hk]
  | some jw =>
    obtain ⟨j,want⟩:=jw
    simp only
    cases hy : yA ops st.fr j with
    | none=>simp
    | some x =>
      cases x with
      | none =>
        simp only [Option.some.injEq,Bool.false_eq_true,false_and,true_and,false_or]
        constructor
        · rintro rfl;exact ⟨_,_,⟨rfl,rfl⟩,rfl⟩
        · rintro ⟨v,S',⟨rfl,rfl⟩,rfl⟩;rfl
      | some b =>
        simp only [Option.some.injEq,beq_iff_eq,beq_eq_false_iff_ne,ne_eq]
        by_cases e : b = want
        · subst e
          simp only [forall_const,not_true_eq_false,false_imp_iff,and_true,true_and,false_and,or_false]
          exact aExec_eff hk
        · simp only [e,false_imp_iff,not_false_eq_true,forall_const,true_and,false_and,false_or]
          constructor
          · rintro rfl;exact ⟨_,_,⟨rfl,rfl⟩,rfl⟩
          · rintro ⟨v,S',⟨rfl,rfl⟩,rfl⟩;rfl

theorem aRes_dom {ops : Array Oper} {o : Oper} {fr : Fram} {S S' : Store} {v : AVal} (h : aRes P mu ops o fr S v S') {m : Nm} (hm : S m ≠ none) : S' m ≠ none:=by
  rcases h with ⟨-,h⟩ | ⟨-,-,rfl⟩
  · exact eff_dom h hm
  · exact hm

theorem aStep_WF {ops : Array Oper} {o : Oper} (hk : ¬ isApp mu o) {st st' : St} (h : aStep P mu ops o st st') (hw : WF st.fr st.sg) : WF st'.fr st'.sg:=by
  obtain ⟨v,S',h1,rfl⟩:=(aStep_res hk).1 h
  have hb : (∀ m,v.at m→S' m ≠ none)∧∀ n b,S' n = some b→b.cl S':=by
    rcases h1 with ⟨-,h1⟩ | ⟨-,rfl,rfl⟩
    · exact eff_WF hw h1
    · exact ⟨fun m hm=>hm.elim,hw.o⟩
  refine ⟨fun t m hm=>?_,hb.2⟩
  have hm' : (putF st.fr o.dst v t).at m:=hm
  cases e : o.dst with
  | none=>rw [e] at hm';exact aRes_dom h1 (hw.f t m hm')
  | some d =>
    rw [e] at hm'
    by_cases q : t = d
    · subst q
      simp only [putF,if_true] at hm'
      exact hb.1 m hm'
    · simp only [putF,if_neg q] at hm'
      exact aRes_dom h1 (hw.f t m hm')

theorem look_put {fr : Fram} {d : Option Nat} {v : AVal} {x : Operand} (h : ∀ t,d = some t→x ≠ .tmp t) : look (putF fr d v) x = look fr x:=by
  cases x with
  | tmp t =>
    cases d with
    | none=>rfl
    | some d =>
      have : t ≠ d:=fun e=>h d rfl (by rw [e])
      simp [look,putF,this]
  | _=>rfl

theorem gd_put {ops : Array Oper} {fr : Fram} {o : Oper} {d : Option Nat} {v : AVal} (h : ∀ t,d = some t→t ∉ o.looksAt ops) : gd ops (putF fr d v) o = gd ops fr o:=by
  unfold gd
  cases hg : o.guard with
  | none=>rfl
  | some jw =>
    obtain ⟨j,want⟩:=jw
    simp only
    have : yA ops (putF fr d v) j = yA ops fr j:=by
      unfold yA
      cases e : (ops[j]?).bind (·.dst) with
      | none=>rfl
      | some t =>
        have hne : d ≠ some t:=fun q=>h t q (by simp [Oper.looksAt,hg,e])
        cases d with
        | none=>rfl
        | some d=>simp [putF,show t ≠ d from fun q=>hne (by rw [q])]
    rw [this]

theorem ops_put {ops : Array Oper} {fr : Fram} {o : Oper} {d : Option Nat} {v : AVal} (h : ∀ t,d = some t→t ∉ o.looksAt ops) : ∀ x ∈ o.op.operands,look (putF fr d v) x = look fr x:=fun x hx =>
  look_put fun t ht e=>h t ht (by
    subst e
    exact List.mem_append_left _ (List.mem_filterMap.2 ⟨.tmp t,by simpa using hx,rfl⟩))

theorem aRes_put {ops : Array Oper} {fr : Fram} {o : Oper} {d : Option Nat} {u : AVal} (h : ∀ t,d = some t→t ∉ o.looksAt ops) {S S' : Store} {v : AVal} :
    aRes P mu ops o (putF fr d u) S v S' ↔ aRes P mu ops o fr S v S':=by
  unfold aRes
  rw [gd_put h]
  have e : eff P mu (putF fr d u) S o v S' ↔ eff P mu fr S o v S':=⟨eff_congr (ops_put h),eff_congr (fun x hx=>(ops_put h x hx).symm)⟩
  rw [e]

theorem putF_comm {fr : Fram} {d e : Option Nat} {u v : AVal} (h : ∀ t,d = some t→e ≠ some t) : putF (putF fr d u) e v = putF (putF fr e v) d u:=by
  cases d with
  | none=>rfl
  | some d =>
    cases e with
    | none=>rfl
    | some e =>
      have hne : d ≠ e:=fun q=>h d rfl (by rw [q])
      funext t
      simp only [putF]
      by_cases h1 : t = d <;> by_cases h2 : t = e <;> simp_all

def kOk : Kind→Kind→Bool
  | .app,_=>false
  | _,.app=>false
  | .pure,_=>true
  | _,.pure=>true
  | .new,_=>true
  | _,.new=>true
  | .read,.read=>true
  | _,_=>false

theorem swap_eff {fr : Fram} {S S1 S2 : Store} {oi oj : Oper} {vi vj : AVal} (hw : WF fr S) (hk : kOk (kind mu oi.op) (kind mu oj.op) = true) (hd : ∀ t,oi.dst = some t→oj.dst ≠ some t)
    (hi : eff P mu fr S oi vi S1) (hj : eff P mu fr S1 oj vj S2) : ∃ S1',eff P mu fr S oj vj S1'∧eff P mu fr S1' oi vi S2:=by
  by_cases k1 : kind mu oi.op = .pure
  · obtain ⟨rfl,h⟩:=eff_pure k1 hi
    exact ⟨S2,hj,h S2⟩
  by_cases k2 : kind mu oj.op = .pure
  · obtain ⟨rfl,h⟩:=eff_pure k2 hj
    exact ⟨S,h S,hi⟩
  by_cases k3 : kind mu oi.op = .new
  · obtain ⟨d,ob,h1,h2,rfl,h3⟩:=eff_new k3 hi
    obtain ⟨S',h4,rfl,h5⟩:=eff_down hw.o h2 (hd d h1) (hw.no h2 oj) hj
    exact ⟨S',h4,h3 S' h5⟩
  by_cases k4 : kind mu oj.op = .new
  · obtain ⟨d,ob,h1,h2,rfl,h3⟩:=eff_new k4 hj
    have hS : S (.loc d) = none:=by
      cases e : S (.loc d) with
      | none=>rfl
      | some x=>exact absurd h2 (eff_dom hi (by rw [e];simp))
    exact ⟨_,h3 S hS,eff_up hw.o hS (fun e=>hd d e h1) (hw.no hS oi) hi⟩
  have k5 : kind mu oi.op = .read∧kind mu oj.op = .read:=by
    revert hk k1 k2 k3 k4
    generalize kind mu oi.op = a
    generalize kind mu oj.op = b
    cases a <;> cases b <;> simp [kOk]
  rcases eff_read k5.1 hi with rfl | ⟨d,ob,h1,h2,rfl⟩
  · rcases eff_read k5.2 hj with rfl | ⟨d',ob',g1,g2,rfl⟩
    · exact ⟨_,hj,hi⟩
    · exact ⟨_,hj,eff_up hw.o g2 (fun e=>hd d' e g1) (hw.no g2 oi) hi⟩
  · obtain ⟨S',h4,rfl,h5⟩:=eff_down hw.o h2 (hd d h1) (hw.no h2 oj) hj
    rcases eff_read k5.2 h4 with rfl | ⟨d',ob',g1,g2,rfl⟩
    · exact ⟨_,h4,hi⟩
    · refine ⟨_,h4,?_⟩
      have q : Nm.loc d ≠ Nm.loc d':=fun e=>hd d h1 (by injection e with e;rw [e];exact g1)
      have:=eff_up (b:=ob') hw.o g2 (fun e=>hd d' e g1) (hw.no g2 oi) hi
      rw [upd_comm _ _ _ q] at this
      exact this

theorem swap {ops : Array Oper} {oi oj : Oper} {st st1 st2 : St} (hw : WF st.fr st.sg) (hk : kOk (kind mu oi.op) (kind mu oj.op) = true) (hap : oi.apart ops oj = true)
    (hi : aStep P mu ops oi st st1) (hj : aStep P mu ops oj st1 st2) : ∃ st1',aStep P mu ops oj st st1'∧aStep P mu ops oi st1' st2:=by
  obtain ⟨h1,h2,h3⟩:=Oper.apart_spec hap
  have ni : ¬ isApp mu oi:=fun e=>by unfold isApp at e;rw [e] at hk;simp [kOk] at hk
  have nj : ¬ isApp mu oj:=fun e=>by unfold isApp at e;rw [e] at hk;cases hq : kind mu oi.op <;> rw [hq] at hk <;> simp [kOk] at hk
  obtain ⟨vi,S1,ri,rfl⟩:=(aStep_res ni).1 hi
  obtain ⟨vj,S2,rj,rfl⟩:=(aStep_res nj).1 hj
  rw [aRes_put h1] at rj
  have key : ∃ S1',aRes P mu ops oj st.fr st.sg vj S1'∧aRes P mu ops oi st.fr S1' vi S2:=by
    rcases ri with ⟨gi,ei⟩ | ⟨gi,rfl,rfl⟩
    · rcases rj with ⟨gj,ej⟩ | ⟨gj,rfl,rfl⟩
      · obtain ⟨S1',a,b⟩:=swap_eff hw hk h2 ei ej
        exact ⟨S1',.inl ⟨gj,a⟩,.inl ⟨gi,b⟩⟩
      · exact ⟨_,.inr ⟨gj,rfl,rfl⟩,.inl ⟨gi,ei⟩⟩
    · exact ⟨_,rj,.inr ⟨gi,rfl,rfl⟩⟩
  obtain ⟨S1',a,b⟩:=key
  refine ⟨⟨putF st.fr oj.dst vj,S1'⟩,(aStep_res nj).2 ⟨vj,S1',a,rfl⟩,(aStep_res ni).2 ⟨vi,S2,(aRes_put h3).2 b,?_⟩⟩
  simp only [St.mk.injEq,and_true]
  exact putF_comm h2
end
end Go.Abs

/-
  A region, drawn or not.
-/
namespace Go.Abs
open Go

inductive Wt (ops : Array Oper) : Nat→Nat→Prop
  | dir {j : Nat} {o : Oper} {e : Edge} (ho : ops[j]? = some o) (he : e ∈ o.after) (hb : Region.binds .any e = true) : Wt ops j e.on
  | tr {j i : Nat} {o : Oper} {e : Edge} (ho : ops[j]? = some o) (he : e ∈ o.after) (hb : Region.binds .any e = true) (h : Wt ops e.on i) : Wt ops j i

def maskOf (acc : List Nat) (o : Oper) : Nat:=o.after.toList.foldl (fun m e=>if Region.binds .any e then m ||| 2 ^ e.on ||| acc.getD e.on 0 else m) 0
def masks (acc : List Nat) : List Oper→List Nat
  | []=>acc
  | o :: rest=>masks (acc ++ [maskOf acc o]) rest

section
variable {ops : Array Oper}

theorem mask_fold (acc : List Nat) (i : Nat) : ∀ (es : List Edge) (m : Nat),(es.foldl (fun m e=>if Region.binds .any e then m ||| 2 ^ e.on ||| acc.getD e.on 0 else m) m).testBit i = true →
    m.testBit i = true ∨ ∃ e ∈ es,Region.binds .any e = true∧(e.on = i ∨ (acc.getD e.on 0).testBit i = true)
  | [],m,h=>.inl h
  | e :: es,m,h=>by
    rw [List.foldl_cons] at h
    rcases mask_fold acc i es _ h with h | ⟨e',he,hb,h⟩
    · split at h
      · rename_i hb
        simp only [Nat.testBit_or,Bool.or_eq_true] at h
        rcases h with (h | h) | h
        · exact .inl h
        · rw [Nat.testBit_two_pow] at h
          exact .inr ⟨e,by simp,hb,.inl (by simpa using h)⟩
        · exact .inr ⟨e,by simp,hb,.inr h⟩
      · exact .inl h
    · exact .inr ⟨e',by simp [he],hb,h⟩

theorem masks_spec : ∀ (rest : List Oper) (acc : List Nat),(∀ j,rest[j]? = ops[acc.length + j]?)→(∀ j i,(acc.getD j 0).testBit i = true→Wt ops j i)→∀ j i,((masks acc rest).getD j 0).testBit i = true→Wt ops j i
  | [],acc,_,h,j,i,hj=>h j i hj
  | o :: rest,acc,hl,h,j,i,hj=>by
    refine masks_spec rest (acc ++ [maskOf acc o]) (fun q=>?_) (fun j i hj=>?_) j i hj
    · have:=hl (q + 1)
      simp only [List.getElem?_cons_succ] at this
      rw [this,List.length_append];simp [Nat.add_assoc,Nat.add_comm 1 q]
    · rw [List.getD_eq_getElem?_getD,List.getElem?_append] at hj
      split at hj
      · exact h j i (by rw [List.getD_eq_getElem?_getD];exact hj)
      · rename_i hge
        by_cases e : j = acc.length
        · subst e
          simp only [Nat.sub_self,List.getElem?_cons_zero,Option.getD_some] at hj
          have ho : ops[acc.length]? = some o:=by have:=hl 0;simpa using this.symm
          rcases mask_fold acc i _ _ hj with q | ⟨e,he,hb,q | q⟩
          · simp at q
          · subst q;exact .dir ho (by simpa using he) hb
          · exact .tr ho (by simpa using he) hb (h _ _ q)
        · rw [List.getElem?_eq_none (by simp;omega)] at hj
          simp at hj

def DC (ops : Array Oper) (listed : Array Bool) : Prop :=
  listed.size = ops.size∧∀ k o,ops[k]? = some o→listed.getD k true = true→∀ e ∈ o.after,Region.binds .any e = true→listed.getD e.on false = true

theorem getD_true {l : Array Bool} {k : Nat} (h : l.getD k false = true) (b : Bool) : l.getD k b = true:=by
  rcases Nat.lt_or_ge k l.size with q | q
  · simp [Array.getD_eq_getD_getElem?,q] at h ⊢;exact h
  · simp [Array.getD_eq_getD_getElem?,Array.getElem?_eq_none q] at h

theorem Wt.listed {listed : Array Bool} (hdc : DC ops listed) {j i : Nat} (h : Wt ops j i) : ∀ o,ops[j]? = some o→(∀ e ∈ o.after,Region.binds .any e = true→listed.getD e.on false = true)→listed.getD i false = true:=by
  induction h with
  | dir ho he hb =>
    intro o h1 h2
    rw [ho] at h1
    obtain rfl:=Option.some.inj h1
    exact h2 _ he hb
  | tr ho he hb h ih =>
    intro o h1 h2
    rw [ho] at h1
    obtain rfl:=Option.some.inj h1
    have h3:=h2 _ he hb
    rename_i j i o' e
    have hlt : e.on < ops.size:=by
      rw [← hdc.1]
      rcases Nat.lt_or_ge e.on listed.size with q | q
      · exact q
      · simp [Array.getD_eq_getD_getElem?,Array.getElem?_eq_none q] at h3
    exact ih _ (Array.getElem?_eq_getElem hlt) (hdc.2 _ _ (Array.getElem?_eq_getElem hlt) (getD_true h3 true))

theorem DC.set {listed : Array Bool} (h : DC ops listed) {i : Nat} (hi : i ∈ Region.ready .any ops listed) : DC ops (listed.setIfInBounds i true):=by
  obtain ⟨h1,o,h2,h3⟩:=mem_ready.1 hi
  refine ⟨by simpa using h.1,fun k o' ho hk e he hb=>?_⟩
  have mono : ∀ q,listed.getD q false = true→(listed.setIfInBounds i true).getD q false = true:=by
    intro q hq
    by_cases e : i = q
    · subst e
      rcases Nat.lt_or_ge i listed.size with g | g
      · simp [Array.getD_eq_getD_getElem?,g]
      · simp [Array.getD_eq_getD_getElem?,Array.getElem?_eq_none g] at hq
    · rw [Array.getD_eq_getD_getElem?,Array.getElem?_setIfInBounds_ne e,← Array.getD_eq_getD_getElem?];exact hq
  by_cases e2 : i = k
  · subst e2
    rw [h2] at ho
    obtain rfl:=Option.some.inj ho
    exact mono _ (h3 e he hb)
  · rw [Array.getD_eq_getD_getElem?,Array.getElem?_setIfInBounds_ne e2,← Array.getD_eq_getD_getElem?] at hk
    exact mono _ (h.2 k o' ho hk e he hb)

variable {P : Program} {mu : FuncId→Bool}

def aAny (P : Program) (mu : FuncId→Bool) (ops : Array Oper) (Q : St→Prop) : Nat→Array Bool→St→Prop
  | 0,listed,st=>Region.ready .any ops listed = []∧Q st
  | fuel + 1,listed,st=>(Region.ready .any ops listed = []→Q st)∧∀ i ∈ Region.ready .any ops listed,∀ o,ops[i]? = some o→∃ st',aStep P mu ops o st st'∧aAny P mu ops Q fuel (listed.setIfInBounds i true) st'

theorem aAny_first {Q : St→Prop} {i : Nat} {oi : Oper} (hi : ops[i]? = some oi) : ∀ (fuel : Nat) (listed : Array Bool) (st st1 : St),WF st.fr st.sg→DC ops listed →
    (∀ j oj,ops[j]? = some oj→j ≠ i→listed.getD j true = false→Wt ops j i ∨ (oi.apart ops oj = true∧kOk (kind mu oi.op) (kind mu oj.op) = true)) →
    i ∈ Region.ready .any ops listed→aStep P mu ops oi st st1→aAny P mu ops Q fuel (listed.setIfInBounds i true) st1→aAny P mu ops Q (fuel + 1) listed st:=by
  intro fuel
  induction fuel with
  | zero =>
    intro listed st st1 hw hdc hfree hr hs H
    refine ⟨fun h=>(by rw [h] at hr;cases hr),fun j hj oj hoj=>?_⟩
    by_cases hji : j = i
    · subst hji
      rw [hi] at hoj
      obtain rfl:=Option.some.inj hoj
      exact ⟨st1,hs,H⟩
    · have:=ready_mono hj hji
      rw [H.1] at this
      cases this
  | succ fuel ih =>
    intro listed st st1 hw hdc hfree hr hs H
    refine ⟨fun h=>(by rw [h] at hr;cases hr),fun j hj oj hoj=>?_⟩
    by_cases hji : j = i
    · subst hji
      rw [hi] at hoj
      obtain rfl:=Option.some.inj hoj
      exact ⟨st1,hs,H⟩
    · obtain ⟨st1j,hsj,Hj⟩:=H.2 j (ready_mono hj hji) oj hoj
      obtain ⟨hjun,oj',hoj',hall⟩:=mem_ready.1 hj
      rw [hoj] at hoj'
      obtain rfl:=Option.some.inj hoj'
      have hnw : ¬ Wt ops j i:=fun hq=>by
        have h1:=hq.listed hdc oj hoj hall
        have h0:=(mem_ready.1 hr).1
        rw [getD_true h1 true] at h0;cases h0
      obtain ⟨hap,hkk⟩:=(hfree j oj hoj hji hjun).resolve_left hnw
      obtain ⟨stj,h1,h2⟩:=swap hw hkk hap hs hsj
      have nj : ¬ isApp mu oj:=fun e=>by unfold isApp at e;rw [e] at hkk;cases hq : kind mu oi.op <;> rw [hq] at hkk <;> simp [kOk] at hkk
      refine ⟨stj,h1,ih (listed.setIfInBounds j true) stj st1j (aStep_WF nj h1 hw) (hdc.set hj) (fun k ok hk hki hun=>?_) (ready_mono hr (Ne.symm hji)) h2 ?_⟩
      · refine hfree k ok hk hki ?_
        by_cases hjk : j = k
        · subst hjk;exact hjun
        · rw [getD_set_ne true hjk] at hun;exact hun
      · rw [Array.setIfInBounds_comm _ _ hji]
        exact Hj

def aOps (P : Program) (mu : FuncId→Bool) (ops : Array Oper) : List Oper→(St→Prop)→St→Prop
  | [],Q,st=>Q st
  | o :: rest,Q,st=>∃ st',aStep P mu ops o st st'∧aOps P mu ops rest Q st'

def appAt (mu : FuncId→Bool) (ops : Array Oper) : Nat:=ops.toList.findIdx fun o=>decide (kind mu o.op = .app)

def lexOK (mu : FuncId→Bool) (ops : Array Oper) : Bool :=
  let ms:=masks [] ops.toList
  let p:=appAt mu ops
  (List.range ops.size).all fun i=>match ops[i]? with
    | none=>true
    | some oi=>(decide (p ≤ i) || (kind mu oi.op != .app)) && (oi.after.toList.all fun e=>!Region.binds .any e || decide (e.on < i)) &&
      (List.range ops.size).all fun j=>decide (j ≤ i) || (ms.getD j 0).testBit i || (decide (i < p) && match ops[j]? with | none=>true | some oj=>oi.apart ops oj && kOk (kind mu oi.op) (kind mu oj.op))

theorem aAny_lin {Q : St→Prop} {i : Nat} {oi : Oper} (hi : ops[i]? = some oi) (fuel : Nat) (listed : Array Bool) (st st1 : St) (hdc : DC ops listed)
    (hfree : ∀ j oj,ops[j]? = some oj→j ≠ i→listed.getD j true = false→Wt ops j i) (hr : i ∈ Region.ready .any ops listed) (hs : aStep P mu ops oi st st1) (H : aAny P mu ops Q fuel (listed.setIfInBounds i true) st1) : aAny P mu ops Q (fuel + 1) listed st:=by
  refine ⟨fun h=>(by rw [h] at hr;cases hr),fun j hj oj hoj=>?_⟩
  by_cases hji : j = i
  · subst hji
    rw [hi] at hoj
    obtain rfl:=Option.some.inj hoj
    exact ⟨st1,hs,H⟩
  · obtain ⟨hjun,oj',hoj',hall⟩:=mem_ready.1 hj
    rw [hoj] at hoj'
    obtain rfl:=Option.some.inj hoj'
    have h1:=(hfree j oj hoj hji hjun).listed hdc oj hoj hall
    have h0:=(mem_ready.1 hr).1
    rw [getD_true h1 true] at h0;cases h0

theorem aAny_lex {Q : St→Prop} (hB : lexOK mu ops = true) : ∀ (l : List Oper) (k : Nat) (listed : Array Bool) (st : St),(∀ j,l[j]? = ops[k + j]?)→k + l.length = ops.size→(k < appAt mu ops→WF st.fr st.sg)→DC ops listed →
    (∀ j,listed.getD j true = false ↔ k ≤ j∧j < ops.size)→(∀ j,listed.getD j false = true ↔ j < k)→aOps P mu ops l Q st→aAny P mu ops Q l.length listed st
  | [],k,listed,st,hl,hlen,hw,hdc,h1,h2,h=>by
    refine ⟨?_,h⟩
    cases hq : Region.ready .any ops listed with
    | nil=>rfl
    | cons x xs =>
      have:=(mem_ready.1 (show x ∈ Region.ready .any ops listed by rw [hq];simp)).1
      have:=(h1 x).1 this
      simp at hlen
      omega
  | o :: l,k,listed,st,hl,hlen,hw,hdc,h1,h2,⟨st',hs,h⟩=>by
    have h0 : ops[k]? = some o:=by simpa using (hl 0).symm
    simp only [List.length_cons] at hlen
    have hk : k < ops.size:=by omega
    have hB0:=hB
    unfold lexOK at hB
    simp only [List.all_eq_true,List.mem_range] at hB
    have hBk:=hB k hk
    rw [h0] at hBk
    simp only [Bool.and_eq_true,bne_iff_ne,ne_eq,List.all_eq_true,List.mem_range,Bool.or_eq_true,Bool.not_eq_true',decide_eq_true_eq] at hBk
    obtain ⟨⟨hna,hed⟩,hfr⟩:=hBk
    have hr : k ∈ Region.ready .any ops listed:=mem_ready.2 ⟨(h1 k).2 ⟨Nat.le_refl _,hk⟩,o,h0,fun e he hb=>(h2 _).2 (by
      rcases hed e (by simpa using he) with q | q
      · rw [hb] at q;cases q
      · exact q)⟩
    have g1 : ∀ j,(listed.setIfInBounds k true).getD j true = false ↔ k + 1 ≤ j∧j < ops.size:=fun j=>by
      have hsz:=hdc.1
      by_cases e : k = j
      · subst e
        simp [Array.getD_eq_getD_getElem?,show k < listed.size by omega]
        omega
      · rw [getD_set_ne true e,h1 j];omega
    have g2 : ∀ j,(listed.setIfInBounds k true).getD j false = true ↔ j < k + 1:=fun j=>by
      have hsz:=hdc.1
      by_cases e : k = j
      · subst e
        simp [Array.getD_eq_getD_getElem?,show k < listed.size by omega]
      · rw [getD_set_ne false e,h2 j];omega
    rcases Nat.lt_or_ge k (appAt mu ops) with hp | hp
    · have hna:=hna.resolve_left (by omega)
      refine aAny_first h0 l.length listed st st' (hw hp) hdc (fun j oj hoj hjk hun=>?_) hr hs
        (aAny_lex hB0 l (k + 1) _ st' (fun j=>by have:=hl (j + 1);simpa [Nat.add_assoc,Nat.add_comm 1 j] using this) (by omega) (fun _=>aStep_WF hna hs (hw hp)) (hdc.set hr) g1 g2 h)
      have hj:=(h1 j).1 hun
      rcases hfr j hj.2 with (q | q) | q
      · omega
      · exact .inl (masks_spec ops.toList [] (by simp) (fun j i hq=>by simp at hq) j k q)
      · rw [hoj] at q
        simp only [Bool.and_eq_true] at q
        exact .inr q.2
    · refine aAny_lin h0 l.length listed st st' hdc (fun j oj hoj hjk hun=>?_) hr hs
        (aAny_lex hB0 l (k + 1) _ st' (fun j=>by have:=hl (j + 1);simpa [Nat.add_assoc,Nat.add_comm 1 j] using this) (by omega) (fun q=>by omega) (hdc.set hr) g1 g2 h)
      have hj:=(h1 j).1 hun
      rcases hfr j hj.2 with (q | q) | q
      · omega
      · exact masks_spec ops.toList [] (by simp) (fun j i hq=>by simp at hq) j k q
      · omega
end
end Go.Abs

/-
  Code over abstract states; a function's contract out of its body.
-/
namespace Go.Abs
open Go

structure Base where
  w0 : World
  ρ0 : Nm→Nat
  S0 : Store

structure Inv (B : Base) (w : World) (ρ : Nm→Nat) (st : St) (tm : Array Value) : Prop where
  sim : Sim w ρ st tm
  ext : Ext (fun _=>False) B.w0 B.ρ0 B.S0 w ρ st.sg
  outs : ∀ m o,B.S0 m = some o→m.isOut = true

section
variable {P : Program} {mu : FuncId→Bool} {w w' : World} {ρ : Nm→Nat} {st st' : St} {a : Act} {B : Base}

theorem ext_heap {S : Store} (h : w'.heap = w.heap) (h1 : w'.os = w.os) (h2 : w'.tape = w.tape) (h3 : w'.output = w.output) : Ext (fun _=>False) w ρ S w' ρ S :=
  ⟨h1,h2,h3,by rw [h];exact Nat.le_refl _,fun _ _ _=>by rw [h],fun _ o h hr=>.inl ⟨o,h,hr,rfl⟩,fun _ o h hr=>⟨o,h,hr,rfl⟩,fun _ _ _ _ _ _ _ hq=>by
    obtain ⟨vs,a,b⟩:=hq;exact ⟨vs,by rw [h];exact a,b⟩,fun _ _ _ _ _ h=>⟨h,fun _=>rfl⟩,fun _ h=>h.elim⟩

theorem Sim.heap {tm : Array Value} (hs : Sim w ρ st tm) (h : w'.heap = w.heap) (h1 : w'.os = w.os) (h2 : w'.tape = w.tape) (h3 : w'.output = w.output) : Sim w' ρ st tm where
  inj:=hs.inj
  obj m o hm:=(hs.obj m o hm).ext (ext_heap (S:=st.sg) (ρ:=ρ) h h1 h2 h3) (fun x hx=>by rw [h];exact hx)
  fr t:=(hs.fr t).ext (ext_heap (S:=st.sg) (ρ:=ρ) h h1 h2 h3) (fun _ h=>h.elim)
  gl:=hs.gl.ext (ext_heap h h1 h2 h3)

theorem Inv.heap {tm : Array Value} (hs : Inv B w ρ st tm) (h : w'.heap = w.heap) (h1 : w'.os = w.os) (h2 : w'.tape = w.tape) (h3 : w'.output = w.output) : Inv B w' ρ st tm :=
  ⟨hs.sim.heap h h1 h2 h3,hs.ext.trans (ext_heap h h1 h2 h3) (fun _ _ _ h=>h),hs.outs⟩

theorem Inv.step {w1 : World} {ρ1 : Nm→Nat} {X : Nm→Prop} {tm tm' : Array Value} (h : Inv B w ρ st tm) (hs : Sim w1 ρ1 st' tm') (he : Ext X w ρ st.sg w1 ρ1 st'.sg) (hX : ∀ m,X m→m.isOut = false) : Inv B w1 ρ1 st' tm' :=
  ⟨hs,h.ext.trans he (fun m o hm hx=>by have:=h.outs m o hm;rw [hX m hx] at this;cases this),h.outs⟩

/-! ### What is held mentions only what is there -/
theorem CellS.cl {x : Cell} {u : Value} {S : Store} (h : CellS w ρ S x u) : x.cl S:=by
  intro m hm
  cases x <;> first
    | exact hm.elim
    | (obtain ⟨⟨o,ho,-⟩,-⟩:=h;rw [← show _ = m from hm,ho];simp)

theorem CellsS.cl {cs : List Cell} {vs : List Value} {S : Store} (h : CellsS w ρ S cs vs) : ∀ x ∈ cs,x.cl S:=fun x hx=>by
  obtain ⟨i,hi,rfl⟩:=List.getElem_of_mem hx
  obtain ⟨u,-,-,h3⟩:=h.2 i _ (List.getElem?_eq_getElem hi)
  exact h3.cl

theorem VS1.cl {x : AVal} {u : Value} {S : Store} (h : VS1 w ρ S x u) : ∀ m,x.at1 m→S m ≠ none:=by
  intro m hm
  cases x with
  | c y=>exact CellS.cl h m hm
  | agg cs=>obtain ⟨vs,-,h1⟩:=h;obtain ⟨c,hc,hq⟩:=hm;exact h1.cl c hc m hq
  | fn f cs=>obtain ⟨vs,-,h1⟩:=h;obtain ⟨c,hc,hq⟩:=hm;exact h1.cl c hc m hq
  | accv n k=>exact h.elim
  | accp n k=>exact h.elim
  | tup xs=>exact h.elim

theorem VS.cl {x : AVal} {u : Value} {S : Store} (h : VS w ρ S x u) : x.cl S:=by
  intro m hm
  cases x with
  | c y=>exact VS1.cl (x:=.c y) h m hm
  | agg cs=>exact VS1.cl (x:=.agg cs) h m hm
  | fn f cs=>exact VS1.cl (x:=.fn f cs) h m hm
  | accv n k=>obtain ⟨ty,k,L,ho,-⟩:=h;rw [← show n = m from hm,ho];simp
  | accp n k=>obtain ⟨ty,k,L,ho,-⟩:=h;rw [← show n = m from hm,ho];simp
  | tup xs =>
    obtain ⟨vs,-,hl,h1⟩:=h
    obtain ⟨x,hx,hq⟩:=hm
    obtain ⟨i,hi,rfl⟩:=List.getElem_of_mem hx
    obtain ⟨u,-,h3⟩:=h1 i _ (List.getElem?_eq_getElem hi)
    exact h3.cl m hq

theorem EnvS.cl {S : Store} (h : EnvS w ρ S) : ∀ n b,S n = some b→b.cl S:=by
  intro n b hb
  have ho:=h.obj n b hb
  cases b with
  | cells ty cs =>
    obtain ⟨vs,-,-,h1⟩:=ho
    intro x hx
    obtain ⟨i,hi,rfl⟩:=List.getElem_of_mem hx
    obtain ⟨u,-,-,h3⟩:=h1 i _ (List.getElem?_eq_getElem hi)
    exact h3.cl
  | ints ty k L=>trivial
  | fix x=>trivial
  | row ty cs =>
    obtain ⟨vs,-,h1⟩:=ho
    intro x hx
    obtain ⟨i,hi,rfl⟩:=List.getElem_of_mem hx
    obtain ⟨u,-,-,h3⟩:=h1 i _ (List.getElem?_eq_getElem hi)
    exact h3.cl
  | acc ty k L =>
    intro c hc x hx
    rcases ho with rfl | ⟨vs,-,-,h1⟩
    · cases hc
    · obtain ⟨i,hi,rfl⟩:=List.getElem_of_mem hc
      obtain ⟨j,hj,rfl⟩:=List.getElem_of_mem hx
      obtain ⟨u,-,-,h3⟩:=h1 i _ j _ (List.getElem?_eq_getElem hi) (List.getElem?_eq_getElem hj)
      exact h3.cl

theorem Sim.wf {tm : Array Value} (h : Sim w ρ st tm) : WF st.fr st.sg:=⟨fun t m hm=>(h.fr t).cl m hm,h.env.cl⟩

/-! ### Regions -/
theorem yA_yields {ops : Array Oper} (h : Sim w ρ st a.tmps) {j : Nat} {y : Option Bool} (hy : yA ops st.fr j = some y) : yielded ops a.tmps j = y:=by
  unfold yA at hy
  unfold yielded
  cases e : (ops[j]?).bind (·.dst) with
  | none=>rw [e] at hy;simp only [Option.some.injEq] at hy;subst hy;rfl
  | some t =>
    rw [e] at hy
    simp only at hy
    have hv:=h.fr t
    simp only [Option.bind_some]
    rcases Nat.lt_or_ge t a.tmps.size with q | q
    · have e2 : a.tmps[t]? = some (a.tmps.getD t undef):=by simp [Array.getD_eq_getD_getElem?,q]
      rw [e2]
      split at hy
      · rename_i b eb
        rw [eb] at hv
        have hv:=vs_sc hv
        rw [hv]
        simpa using hy
      · rename_i vs eb
        rw [eb] at hv
        have hv:=vs_sc hv
        rw [hv]
        simpa using hy
      · cases hy
    · rw [Array.getElem?_eq_none q]
      have e2 : a.tmps.getD t undef = undef:=by simp [Array.getD_eq_getD_getElem?,Array.getElem?_eq_none q]
      rw [e2] at hv
      split at hy
      · rename_i b eb
        rw [eb] at hv
        have hv:=vs_sc hv
        cases hv
      · simpa using hy
      · cases hy

theorem aStep_sound {ops : Array Oper} (h : Sim w ρ st a.tmps) {o : Oper} (hd : ∀ t,o.dst = some t→t < a.tmps.size) (he : aStep P mu ops o st st') {K : Act→World→Prop} {Q : Exit→Act→World→Prop}
    (hK : StepTo w ρ st st' a o.dst K) : if Region.wanted o (yielded ops a.tmps) then o.wp P a w K Q else K (a.put o.dst undef) w:=by
  unfold aStep at he
  have skip : st' = ⟨putF st.fr o.dst undefA,st.sg⟩→K (a.put o.dst undef) w:=by
    rintro rfl
    exact hK _ _ _ _ (h.put h.env (Ext.refl _ _ _) st.fr (fun t=>.inr ⟨rfl,fun _ h=>h.elim⟩) hd (rfl : undef = undef)) (Ext.refl _ _ _) (fun _ h=>h.elim)
  cases hg : o.guard with
  | none =>
    rw [hg] at he
    simp only [Region.wanted,hg,if_true]
    exact aExec_sound h hd he hK
  | some jw =>
    obtain ⟨j,want⟩:=jw
    rw [hg] at he
    simp only at he
    simp only [Region.wanted,hg]
    split at he
    · rename_i b hb
      rw [yA_yields h hb]
      by_cases e : b = want
      · subst e
        simp only [BEq.rfl,if_true]
        exact aExec_sound h hd (he.1 rfl) hK
      · have e2 : (some b == some want) = false:=by simpa using e
        rw [e2]
        simp only [Bool.false_eq_true,if_false]
        exact skip (he.2 e)
    · rename_i hb
      rw [yA_yields h hb]
      have e2 : ((none : Option Bool) == some want) = false:=rfl
      rw [e2]
      simp only [Bool.false_eq_true,if_false]
      exact skip he
    · exact he.elim

def Ends (B : Base) (N : Nat) (Q : Exit→St→Prop) : Exit→Act→World→Prop:=fun e a w=>a.defers = []∧a.tmps.size = N∧∃ st ρ,Inv B w ρ st a.tmps∧Q e st

theorem put_size (a : Act) (d : Option Nat) (u : Value) : (a.put d u).tmps.size = a.tmps.size:=by cases d <;> simp [Act.put]
theorem put_defers (a : Act) (d : Option Nat) (u : Value) : (a.put d u).defers = a.defers:=by cases d <;> rfl

theorem aOps_sound {ops : Array Oper} {N : Nat} {Q : Exit→St→Prop} : ∀ (l : List Oper) (st : St) (w : World) (ρ : Nm→Nat) (a : Act),(∀ o ∈ l,∀ t,o.dst = some t→t < N)→a.defers = []→a.tmps.size = N→Inv B w ρ st a.tmps →
    aOps P mu ops l (Q .normal) st→wpList P ops (Ends B N Q) l a w
  | [],st,w,ρ,a,_,hd,hn,hi,h=>⟨hd,hn,st,ρ,hi,h⟩
  | o :: l,st,w,ρ,a,hb,hd,hn,hi,⟨st',hs,h⟩=>by
    refine wpList_step fun K hK=>?_
    refine aStep_sound hi.sim (fun t ht=>by rw [hn];exact hb o (by simp) t ht) hs (fun w' ρ' u X h1 h2 h3=>?_)
    exact hK _ _ (aOps_sound l st' w' ρ' _ (fun o ho=>hb o (by simp [ho])) (by rw [put_defers];exact hd) (by rw [put_size];exact hn) (hi.step h1 h2 h3) h)

theorem aAny_sound {ops : Array Oper} {N : Nat} {Q : Exit→St→Prop} (hb : ∀ o ∈ ops,∀ t,o.dst = some t→t < N) : ∀ (fuel : Nat) (listed : Array Bool) (st : St) (w : World) (ρ : Nm→Nat) (a : Act),a.defers = []→a.tmps.size = N→Inv B w ρ st a.tmps →
    aAny P mu ops (Q .normal) fuel listed st→wpAny P .any ops (Ends B N Q) fuel listed a w
  | 0,listed,st,w,ρ,a,hd,hn,hi,h=>⟨h.1,hd,hn,st,ρ,hi,h.2⟩
  | fuel + 1,listed,st,w,ρ,a,hd,hn,hi,h=>by
    refine ⟨fun h0=>⟨hd,hn,st,ρ,hi,h.1 h0⟩,fun i hr=>?_⟩
    unfold wpOp
    obtain ⟨-,o,ho,-⟩:=mem_ready.1 hr
    obtain ⟨st',hs,h'⟩:=h.2 i hr o ho
    rw [ho]
    simp only
    have:=aStep_sound (K:=wpAny P .any ops (Ends B N Q) fuel (listed.setIfInBounds i true)) (Q:=Ends B N Q) hi.sim (fun t ht=>by rw [hn];exact hb o (Array.mem_of_getElem? ho) t ht) hs (fun w' ρ' u X h1 h2 h3 =>
      aAny_sound hb fuel _ st' w' ρ' _ (by rw [put_defers];exact hd) (by rw [put_size];exact hn) (hi.step h1 h2 h3) h')
    split
    · rename_i hw;rw [if_pos hw] at this;exact .inl this
    · rename_i hw;rw [if_neg hw] at this;exact this

/-! ### Code -/
def ne4 (_ : List Oper) : Bool:=false

def okC (N : Nat) (mu : FuncId→Bool) : Code→Bool
  | .region _ ops draw=>(ops.toList.all fun o=>match o.dst with | some d=>decide (d < N) | none=>true) && (!draw || lexOK mu ops || !ne4 ops.toList)
  | .seq x y=>okC N mu x && okC N mu y
  | .cond _ x y=>okC N mu x && okC N mu y
  | .block _ c=>okC N mu c
  | .loop c=>okC N mu c
  | .scope c=>okC N mu c
  | .label _=>true
  | .skip=>true
  | .exit _=>true
  | .ret=>true
  | _=>false

def awp (P : Program) (mu : FuncId→Bool) (N : Nat) (c : Code) (Q : Exit→St→Prop) (st : St) : Prop :=
  P.follows .mixedOrders = true→okC N mu c = true→∀ (B : Base) (w : World) (ρ : Nm→Nat) (a : Act),a.defers = []→a.tmps.size = N→Inv B w ρ st a.tmps→c.wp P (Ends B N Q) a w

variable {N : Nat} {Q : Exit→St→Prop}

theorem Inv.weak {F : St} {tm : Array Value} (h : Inv B w ρ st tm) (hw : Weak st F) : ∃ ρ',Inv B w ρ' F tm:=by
  obtain ⟨ρ',h1,h2,h3⟩:=hw w ρ tm h.sim
  refine ⟨ρ',h1,⟨h.ext.os,h.ext.tape,h.ext.output,h.ext.size,h.ext.old,fun m o' hm hr=>?_,fun m o hm ha=>?_,h.ext.szs,fun m ty k L hX hm=>?_,fun _ h=>h.elim⟩,h.outs⟩
  · obtain ⟨m2,o2,e2,r2,q2,i2⟩:=h2 m o' hm hr
    rcases h.ext.nms m2 o2 e2 r2 with ⟨o,a1,a2,a3⟩ | a1
    · have:=i2 (h.outs m2 o a1)
      subst this
      exact .inl ⟨o,a1,a2,q2.trans a3⟩
    · exact .inr (by rw [q2];exact a1)
  · obtain ⟨o',a1,a2,a3⟩:=h.ext.kp m o hm ha
    obtain ⟨b1,b2⟩:=h3 m (h.outs m o hm)
    exact ⟨o',by rw [b1];exact a1,a2,b2.trans a3⟩
  · obtain ⟨a1,a2⟩:=h.ext.acc m ty k L hX hm
    obtain ⟨b1,b2⟩:=h3 m (h.outs m _ hm)
    exact ⟨by rw [b1];exact a1,fun hl=>b2.trans (a2 hl)⟩
end
end Go.Abs

/-
  Rules for code; contracts.
-/
namespace Go.Abs
open Go

section
variable {P : Program} {mu : FuncId→Bool} {N : Nat} {Q : Exit→St→Prop} {st : St}

theorem awp_weak {c : Code} (F : St) (hw : Weak st F) (h : awp P mu N c Q F) : awp P mu N c Q st:=fun hm hok B w ρ a hd hn hi=>by
  obtain ⟨ρ',hi'⟩:=hi.weak hw
  exact h hm hok B w ρ' a hd hn hi'

theorem ends_mono {B : Base} {Q Q' : Exit→St→Prop} (h : ∀ e st,Q e st→Q' e st) {e : Exit} {a : Act} {w : World} (hh : Ends B N Q e a w) : Ends B N Q' e a w:=by
  obtain ⟨h1,h2,st,ρ,h3,h4⟩:=hh
  exact ⟨h1,h2,st,ρ,h3,h e st h4⟩

theorem awp_mono {c : Code} {Q' : Exit→St→Prop} (h : awp P mu N c Q st) (hq : ∀ e st,Q e st→Q' e st) : awp P mu N c Q' st:=fun hm hok B w ρ a hd hn hi =>
  Code.wp_mono (fun _ _ _=>ends_mono hq) (h hm hok B w ρ a hd hn hi)

theorem awp_region {id : Nat} {ops : Array Oper} {draw : Bool} (h : aOps P mu ops ops.toList (Q .normal) st) (hl : draw = true→(ne4 ops.toList || lexOK mu ops) = true) : awp P mu N (.region id ops draw) Q st:=fun hm hok B w ρ a hd hn hi=>by
  simp only [okC,Bool.and_eq_true,List.all_eq_true,Bool.or_eq_true,Bool.not_eq_true'] at hok
  have hb : ∀ o ∈ ops.toList,∀ t,o.dst = some t→t < N:=fun o ho t ht=>by
    have:=hok.1 o ho
    rw [ht] at this
    simpa using this
  cases draw with
  | false=>exact wp_region_list (aOps_sound ops.toList st w ρ a hb hd hn hi h)
  | true =>
    have hB : lexOK mu ops = true:=by
      have h1:=hl rfl
      rcases hok.2 with h2 | h2
      · exact h2.resolve_left (by simp)
      · rw [h2] at h1;simpa using h1
    refine wp_region_any hm ?_
    have hi':=hi.heap (w':={ w with drawn:=w.drawn + 1 }) rfl rfl rfl rfl
    refine aAny_sound (mu:=mu) (fun o ho=>hb o (by simpa using ho)) _ _ st _ ρ a hd hn hi' ?_
    have:=aAny_lex hB ops.toList 0 (Array.replicate ops.size false) st (by simp) (by simp) (fun _=>hi.sim.wf) ⟨by simp,fun k o ho hk=>by
      rcases Nat.lt_or_ge k ops.size with q | q
      · simp [Array.getD_eq_getD_getElem?,q] at hk
      · rw [Array.getElem?_eq_none q] at ho;cases ho⟩ (fun j=>by
      rcases Nat.lt_or_ge j ops.size with q | q
      · simp [Array.getD_eq_getD_getElem?,q]
      · simp [Array.getD_eq_getD_getElem?,Array.getElem?_eq_none (show (Array.replicate ops.size false).size ≤ j by simpa using q)];omega) (fun j=>by
      rcases Nat.lt_or_ge j ops.size with q | q
      · simp [Array.getD_eq_getD_getElem?,q]
      · simp [Array.getD_eq_getD_getElem?,Array.getElem?_eq_none (show (Array.replicate ops.size false).size ≤ j by simpa using q)]) h
    simpa using this

def thenA (K : St→Prop) (Q : Exit→St→Prop) : Exit→St→Prop
  | .normal,st=>K st
  | e,st=>Q e st

theorem awp_seq {x y : Code} (h : awp P mu N x (thenA (awp P mu N y Q) Q) st) : awp P mu N (.seq x y) Q st:=fun hm hok B w ρ a hd hn hi=>by
  simp only [okC,Bool.and_eq_true] at hok
  refine wp_seq (Code.wp_mono ?_ (h hm hok.1 B w ρ a hd hn hi))
  rintro e a' w' ⟨h1,h2,st',ρ',h3,h4⟩
  cases e with
  | normal=>exact h4 hm hok.2 B w' ρ' a' h1 h2 h3
  | _=>exact ⟨h1,h2,st',ρ',h3,h4⟩

theorem awp_cond {c : Operand} {x y : Code} {t : Bool} (hc : look st.fr c = bvl t) (h1 : t = true→awp P mu N x Q st) (h2 : t = false→awp P mu N y Q st) : awp P mu N (.cond c x y) Q st:=fun hm hok B w ρ a hd hn hi=>by
  simp only [okC,Bool.and_eq_true] at hok
  have hv:=hi.sim.look c
  rw [hc] at hv
  have hv:=vs_sc hv
  exact wp_cond_split hv (fun e=>h1 e hm hok.1 B w ρ a hd hn hi) (fun e=>h2 e hm hok.2 B w ρ a hd hn hi)

def blockA (id : Nat) (Q : Exit→St→Prop) : Exit→St→Prop
  | .exit id',st=>if id' = id then Q .normal st else Q (.exit id') st
  | e,st=>Q e st

theorem awp_block {id : Nat} {c : Code} (h : awp P mu N c (blockA id Q) st) : awp P mu N (.block id c) Q st:=fun hm hok B w ρ a hd hn hi=>by
  refine wp_block (Code.wp_mono ?_ (h hm hok B w ρ a hd hn hi))
  rintro e a' w' ⟨h1,h2,st',ρ',h3,h4⟩
  cases e with
  | exit id' =>
    simp only [Exit.inBlock]
    simp only [blockA] at h4
    split
    · rename_i e;rw [if_pos e] at h4;exact ⟨h1,h2,st',ρ',h3,h4⟩
    · rename_i e;rw [if_neg e] at h4;exact ⟨h1,h2,st',ρ',h3,h4⟩
  | _=>exact ⟨h1,h2,st',ρ',h3,h4⟩

theorem awp_exit {id : Nat} (h : Q (.exit id) st) : awp P mu N (.exit id) Q st:=fun _ _ _ _ ρ _ hd hn hi=>wp_exit ⟨hd,hn,st,ρ,hi,h⟩
theorem awp_ret (h : Q .ret st) : awp P mu N .ret Q st:=fun _ _ _ _ ρ _ hd hn hi=>wp_ret ⟨hd,hn,st,ρ,hi,h⟩
theorem awp_skip (h : Q .normal st) : awp P mu N .skip Q st:=fun _ _ _ _ ρ _ hd hn hi=>wp_skip ⟨hd,hn,st,ρ,hi,h⟩

theorem least_of {A : Nat→Prop} : ∀ n,A n→∃ m,A m∧∀ k,A k→m ≤ k:=by
  intro n
  induction n using Nat.strongRecOn with
  | _ n ih =>
    intro h
    by_cases hq : ∃ k,k < n∧A k
    · obtain ⟨k,hk,ha⟩:=hq;exact ih k hk ha
    · exact ⟨n,h,fun k hk=>by rcases Nat.lt_or_ge k n with q | q;exact absurd ⟨k,q,hk⟩ hq;exact q⟩

open Classical in
theorem awp_loop {c : Code} {ι : Type} (F : ι→St) (μ : ι→Nat) (i0 : ι) (h0 : Weak st (F i0)) (hr : ∀ i,awp P mu N c (thenA (fun st'=>∃ i',Weak st' (F i')∧μ i' < μ i) Q) (F i)) : awp P mu N (.loop c) Q st:=fun hm hok B w ρ a hd hn hi=>by
  have hokc : okC N mu c = true:=hok
  obtain ⟨ρ0,hi0⟩:=hi.weak h0
  let I : Act→World→Nat→Prop:=fun a w n=>∃ i ρ,μ i = n∧a.defers = []∧a.tmps.size = N∧Inv B w ρ (F i) a.tmps
  let m : Act→World→Nat:=fun a w=>if h : ∃ n,I a w n then Classical.choose (least_of _ h.choose_spec) else 0
  have hmin : ∀ a w n,I a w n→I a w (m a w)∧m a w ≤ n:=by
    intro a w n h
    have hex : ∃ n,I a w n:=⟨n,h⟩
    have hs:=Classical.choose_spec (least_of _ hex.choose_spec)
    have e : m a w = Classical.choose (least_of _ hex.choose_spec):=by simp only [m];rw [dif_pos hex]
    rw [e]
    exact ⟨hs.1,hs.2 n h⟩
  refine wp_loop (fun a w=>∃ n,I a w n) m ⟨μ i0,i0,ρ0,rfl,hd,hn,hi0⟩ ?_
  rintro a w ⟨n,hI⟩
  obtain ⟨⟨i,ρ,hmu,hd,hn,hi⟩,-⟩:=hmin a w n hI
  refine Code.wp_mono ?_ (hr i hm hokc B w ρ a hd hn hi)
  rintro e a' w' ⟨h1,h2,st',ρ',h3,h4⟩
  cases e with
  | normal =>
    obtain ⟨i',h5,h6⟩:=h4
    obtain ⟨ρ2,h7⟩:=h3.weak h5
    have hI' : I a' w' (μ i'):=⟨i',ρ2,rfl,h1,h2,h7⟩
    exact ⟨⟨_,hI'⟩,by have:=(hmin a' w' _ hI').2;omega⟩
  | _=>exact ⟨h1,h2,st',ρ',h3,h4⟩

/-! ### Contracts -/
def Nm.unout : Nm→Nm
  | .out m=>m
  | m=>m

def pushS (S : Store) : Store
  | .out m=>(S m).map (·.map .out)
  | _=>none

def entryF (args : List AVal) : Fram:=fun t=>match args[t]? with | some x=>x.map .out | none=>undefA

def resE (P : Program) (st : St) (rv : ResultVar) (v : AVal) : Prop :=
  match rv with
  | .tmp t=>v = st.fr t
  | .cell a t=>loadE P st.sg t (st.fr a) v

def ressE (P : Program) (st : St) : List ResultVar→List AVal→Prop
  | [],vs=>vs = []
  | r :: rs,vs=>∃ v vs',resE P st r v∧ressE P st rs vs'∧vs = v :: vs'

def oneR : List AVal→AVal
  | [x]=>x
  | xs=>.tup xs

theorem Cell.map_map {f g : Nm→Nm} (x : Cell) : (x.map f).map g = x.map (fun m=>g (f m)):=by cases x <;> rfl
theorem Cell.map_maps {f g : Nm→Nm} (cs : List Cell) : (cs.map (·.map f)).map (·.map g) = cs.map (·.map fun m=>g (f m)):=by
  rw [List.map_map];exact List.map_congr_left fun x _=>x.map_map
theorem AVal.map1_map {f g : Nm→Nm} (x : AVal) : (x.map1 f).map1 g = x.map1 (fun m=>g (f m)):=by
  cases x <;> simp only [AVal.map1,Cell.map_map,Cell.map_maps]
theorem AVal.map_map {f g : Nm→Nm} (x : AVal) : (x.map f).map g = x.map (fun m=>g (f m)):=by
  cases x with
  | tup xs=>simp only [AVal.map,List.map_map];congr 1;exact List.map_congr_left fun x _=>x.map1_map
  | c x=>exact AVal.map1_map (.c x)
  | agg x=>exact AVal.map1_map (.agg x)
  | fn f x=>exact AVal.map1_map (.fn f x)
  | accv m n=>rfl
  | accp m n=>rfl
theorem AObj.map_map {f g : Nm→Nm} (x : AObj) : (x.map f).map g = x.map (fun m=>g (f m)):=by
  cases x with
  | acc ty sz L =>
    simp only [AObj.map,List.map_map]
    congr 1
    exact List.map_congr_left fun c _=>Cell.map_maps c
  | _=>simp only [AObj.map,Cell.map_maps]

theorem Cell.map_at {f : Nm→Nm} {x : Cell} {m : Nm} (h : (x.map f).at m) : ∃ n,x.at n∧m = f n:=by
  cases x <;> first
    | exact h.elim
    | exact ⟨_,rfl,h.symm⟩
theorem AVal.map1_at {f : Nm→Nm} {x : AVal} {m : Nm} (h : (x.map1 f).at1 m) : ∃ n,x.at1 n∧m = f n:=by
  cases x with
  | c x=>exact Cell.map_at h
  | agg cs=>obtain ⟨y,hy,hq⟩:=h;obtain ⟨z,hz,rfl⟩:=List.mem_map.1 hy;obtain ⟨n,a,b⟩:=Cell.map_at hq;exact ⟨n,⟨z,hz,a⟩,b⟩
  | fn g cs=>obtain ⟨y,hy,hq⟩:=h;obtain ⟨z,hz,rfl⟩:=List.mem_map.1 hy;obtain ⟨n,a,b⟩:=Cell.map_at hq;exact ⟨n,⟨z,hz,a⟩,b⟩
  | accv m' n=>exact ⟨_,rfl,h.symm⟩
  | accp m' n=>exact ⟨_,rfl,h.symm⟩
  | tup xs=>exact h.elim
theorem AVal.map_at {f : Nm→Nm} {x : AVal} {m : Nm} (h : (x.map f).at m) : ∃ n,x.at n∧m = f n:=by
  cases x with
  | tup xs=>obtain ⟨y,hy,hq⟩:=h;obtain ⟨z,hz,rfl⟩:=List.mem_map.1 hy;obtain ⟨n,a,b⟩:=AVal.map1_at hq;exact ⟨n,⟨z,hz,a⟩,b⟩
  | c x=>exact AVal.map1_at (x:=.c x) h
  | agg x=>exact AVal.map1_at (x:=.agg x) h
  | fn g x=>exact AVal.map1_at (x:=.fn g x) h
  | accv m' n=>exact ⟨_,rfl,h.symm⟩
  | accp m' n=>exact ⟨_,rfl,h.symm⟩

theorem pushS_some {S : Store} {n : Nm} {o : AObj} (h : pushS S n = some o) : ∃ m b,n = .out m∧S m = some b∧o = b.map .out:=by
  cases n with
  | out m =>
    simp only [pushS,Option.map_eq_some_iff] at h
    obtain ⟨b,h1,h2⟩:=h
    exact ⟨m,b,rfl,h1,h2.symm⟩
  | _=>cases h

theorem back_push {S : Store} (hc : ∀ n b,S n = some b→b.cl S) : Back Nm.unout S (pushS S) where
  inj m n hm hn e:=by
    cases h1 : pushS S m with
    | none=>exact absurd h1 hm
    | some o =>
      cases h2 : pushS S n with
      | none=>exact absurd h2 hn
      | some o' =>
        obtain ⟨a,b,rfl,-,-⟩:=pushS_some h1
        obtain ⟨a',b',rfl,-,-⟩:=pushS_some h2
        simp only [Nm.unout] at e
        rw [e]
  at_ m o h:=by
    obtain ⟨a,b,rfl,h1,rfl⟩:=pushS_some h
    simp only [Nm.unout,h1,AObj.map_map,Option.some.injEq]
    exact (AObj.map_id b).symm
  cl m o h:=by
    obtain ⟨a,b,rfl,h1,rfl⟩:=pushS_some h
    have:=hc a b h1
    cases b with
    | cells ty cs =>
      intro x hx n hn
      obtain ⟨y,hy,rfl⟩:=List.mem_map.1 hx
      obtain ⟨q,hq,rfl⟩:=Cell.map_at hn
      have:=this y hy q hq
      cases e : S q with
      | none=>exact absurd e this
      | some z=>simp [pushS,e]
    | ints ty k L=>trivial
    | fix x=>trivial
    | row ty cs =>
      intro x hx n hn
      obtain ⟨y,hy,rfl⟩:=List.mem_map.1 hx
      obtain ⟨q,hq,rfl⟩:=Cell.map_at hn
      have:=this y hy q hq
      cases e : S q with
      | none=>exact absurd e this
      | some z=>simp [pushS,e]
    | acc ty k L =>
      intro c hc x hx n hn
      obtain ⟨c',hc',rfl⟩:=List.mem_map.1 hc
      obtain ⟨y,hy,rfl⟩:=List.mem_map.1 hx
      obtain ⟨q,hq,rfl⟩:=Cell.map_at hn
      have:=this c' hc' y hy q hq
      cases e : S q with
      | none=>exact absurd e this
      | some z=>simp [pushS,e]

def resRun (tm : Array Value) : ResultVar→Sem Value
  | .tmp t=>pure (tm.getD t undef)
  | .cell a t=>do loadVar t (← asAddr (tm.getD a undef))

theorem results_eq (fn : Func) (tm : Array Value) : results fn tm = (do let vs ← fn.results.mapM (resRun tm);pure (if h : vs.size = 1 then vs[0] else .tuple vs)):=by
  unfold results
  congr 2

theorem run_results {w : World} {ρ : Nm→Nat} {tm : Array Value} (h : Sim w ρ st tm) : ∀ (rs : List ResultVar) (vs : List AVal),ressE P st rs vs→∃ us : List Value,
    (rs.mapM (resRun tm)).run P w = .ok us w∧VSs w ρ st.sg vs us
  | [],vs,hv=>by simp only [ressE] at hv;subst hv;exact ⟨[],rfl,rfl,fun i x hi=>by simp at hi⟩
  | rv :: rs,vs,⟨v,vs',h1,h2,e⟩=>by
    subst e
    obtain ⟨us,h3,h4⟩:=run_results h rs vs' h2
    have hv : ∃ u,(resRun tm rv).run P w = .ok u w∧VS w ρ st.sg v u:=by
      cases rv with
      | tmp t=>exact ⟨_,rfl,by simp only [resE] at h1;rw [h1];exact h.fr t⟩
      | cell x t =>
        simp only [resE] at h1
        obtain ⟨u,h5,h6⟩:=loadE_run (P:=P) h.env (h.fr x) h1
        refine ⟨u,?_,h6⟩
        have : ∃ ad,tm.getD x undef = .pointer (some ad):=by
          have hx:=h.fr x
          unfold loadE at h1
          split at h1
          · rename_i e;rw [e] at hx;obtain ⟨-,q⟩:=hx;exact ⟨_,q⟩
          · rename_i e;rw [e] at hx;obtain ⟨b,off,q,-⟩:=hx;exact ⟨_,q⟩
          · rename_i e;rw [e] at hx;obtain ⟨_,_,_,-,-,q⟩:=hx;exact ⟨_,q⟩
          · exact h1.elim
        obtain ⟨ad,e⟩:=this
        simp only [Instr.loadAt,e,Instr.sureAddr,Sem.run_bind,Sem.run_pure,Result.andThen_ok] at h5
        simp only [resRun,e,asAddr,Sem.run_bind,Sem.run_pure,Result.andThen_ok]
        exact h5
    obtain ⟨u,h5,h6⟩:=hv
    refine ⟨u :: us,?_,by simp [h4.1],fun i x hi=>?_⟩
    · rw [List.mapM_cons]
      simp only [Sem.run_bind,h5,Result.andThen_ok,h3,Sem.run_pure]
    · match i with
      | 0=>simp only [List.getElem?_cons_zero,Option.some.injEq] at hi;subst hi;exact ⟨u,rfl,h6⟩
      | i + 1=>exact h4.2 i x (by simpa using hi)

theorem oneR_held {w : World} {ρ : Nm→Nat} {S : Store} : ∀ (rs : List AVal) (us : List Value),VSs w ρ S rs us→(∀ x ∈ rs,rs.length = 1 ∨ (x.flat∧∀ m o,x ≠ .accv m o∧x ≠ .accp m o)) →
    VS w ρ S (oneR rs) (if h : us.toArray.size = 1 then us.toArray[0] else .tuple us.toArray)
  | [x],[u],h8,_=>by
    obtain ⟨u',q1,q2⟩:=h8.2 0 x rfl
    simp only [List.getElem?_cons_zero,Option.some.injEq] at q1
    subst q1
    exact q2
  | [],[],_,_=>⟨#[],rfl,rfl,fun i x hi=>by simp at hi⟩
  | x :: y :: rs,u :: u2 :: us,h8,h2=>by
    have : ¬ (u :: u2 :: us).toArray.size = 1:=by simp
    rw [dif_neg this]
    refine ⟨_,rfl,by simpa using h8.1,fun i z hi=>?_⟩
    obtain ⟨u',q1,q2⟩:=h8.2 i z hi
    refine ⟨u',by simpa using q1,?_⟩
    rcases h2 z (List.mem_of_getElem? hi) with q | ⟨q,q'⟩
    · simp at q
    · cases z with
      | tup _=>exact q.elim
      | accv m o=>exact absurd rfl (q' m o).1
      | accp m o=>exact absurd rfl (q' m o).2
      | c _=>exact q2
      | agg _=>exact q2
      | fn _ _=>exact q2
  | [],_ :: _,h8,_=>by have:=h8.1;simp at this
  | [_],[],h8,_=>by have:=h8.1;simp at this
  | [_],_ :: _ :: _,h8,_=>by have:=h8.1;simp at this
  | _ :: _ :: _,[],h8,_=>by have:=h8.1;simp at this
  | _ :: _ :: _,[_],h8,_=>by have:=h8.1;simp at this

def Nm.isNew (m n : Nm) : Bool :=
  match m with
  | .fam p i=>decide (p = n) || decide (.fam p i = n)
  | m=>decide (m = n)
theorem Nm.isNew_t {n m : Nm} (h : m.isNew n = true) : m = n ∨ ∃ i,m = .fam n i:=by
  cases m with
  | fam p i =>
    simp only [Nm.isNew,Bool.or_eq_true,decide_eq_true_eq] at h
    rcases h with h | h
    · exact .inr ⟨i,by rw [h]⟩
    · exact .inl h
  | _=>simp only [Nm.isNew,decide_eq_true_eq] at h;exact .inl h
theorem Nm.isNew_self (n : Nm) : n.isNew n = true:=by cases n <;> simp [Nm.isNew]
theorem Nm.isNew_ne {n m : Nm} (h : m.isNew n = false) : m ≠ n:=fun e=>by rw [e,Nm.isNew_self] at h;cases h
theorem Cell.map_out {φ : Nm→Nm} (hφ : ∀ m k,φ m = .out k→m = k) : ∀ {x y : Cell},x.map φ = y.map .out→x = y:=by
  intro x y h
  cases x <;> cases y <;> simp only [Cell.map] at h <;> first
    | (cases h;done)
    | (cases h;rfl)
    | (injection h with h1 h2 h3 h4;rw [hφ _ _ h1,h2,h3,h4])
    | (injection h with h1 h2;rw [hφ _ _ h1,h2])
theorem Cell.maps_out {φ : Nm→Nm} (hφ : ∀ m k,φ m = .out k→m = k) : ∀ {xs ys : List Cell},xs.map (·.map φ) = ys.map (·.map .out)→xs = ys
  | [],[],_=>rfl
  | x :: xs,y :: ys,h=>by
    simp only [List.map_cons,List.cons.injEq] at h
    rw [Cell.map_out hφ h.1,Cell.maps_out hφ h.2]
  | [],_ :: _,h=>by cases h
  | _ :: _,[],h=>by cases h
theorem Cell.mapss_out {φ : Nm→Nm} (hφ : ∀ m k,φ m = .out k→m = k) : ∀ {xs ys : List (List Cell)},xs.map (·.map (·.map φ)) = ys.map (·.map (·.map .out))→xs = ys
  | [],[],_=>rfl
  | x :: xs,y :: ys,h=>by
    simp only [List.map_cons,List.cons.injEq] at h
    rw [Cell.maps_out hφ h.1,Cell.mapss_out hφ h.2]
  | [],_ :: _,h=>by cases h
  | _ :: _,[],h=>by cases h

theorem Cell.map_congr {φ ψ : Nm→Nm} {x : Cell} (h : ∀ q,x.at q→φ q = ψ q) : x.map φ = x.map ψ:=by
  cases x <;> simp only [Cell.map] <;> rw [h _ rfl]
theorem Cell.maps_congr {φ ψ : Nm→Nm} {cs : List Cell} (h : ∀ x ∈ cs,∀ q,x.at q→φ q = ψ q) : cs.map (·.map φ) = cs.map (·.map ψ) :=
  List.map_congr_left fun x hx=>Cell.map_congr (h x hx)
theorem AVal.map1_congr {φ ψ : Nm→Nm} {x : AVal} (h : ∀ q,x.at1 q→φ q = ψ q) : x.map1 φ = x.map1 ψ:=by
  cases x with
  | c x=>simp only [AVal.map1,Cell.map_congr (x:=x) h]
  | agg cs=>simp only [AVal.map1,Cell.maps_congr (cs:=cs) fun x hx q hq=>h q ⟨x,hx,hq⟩]
  | fn f cs=>simp only [AVal.map1,Cell.maps_congr (cs:=cs) fun x hx q hq=>h q ⟨x,hx,hq⟩]
  | accv m n=>simp only [AVal.map1,h m rfl]
  | accp m n=>simp only [AVal.map1,h m rfl]
  | tup xs=>rfl
theorem AVal.map_congr {φ ψ : Nm→Nm} {x : AVal} (h : ∀ q,x.at q→φ q = ψ q) : x.map φ = x.map ψ:=by
  cases x with
  | tup xs =>
    simp only [AVal.map]
    congr 1
    exact List.map_congr_left fun x hx=>AVal.map1_congr fun q hq=>h q ⟨x,hx,hq⟩
  | c x=>exact AVal.map1_congr (x:=.c x) h
  | agg x=>exact AVal.map1_congr (x:=.agg x) h
  | fn f x=>exact AVal.map1_congr (x:=.fn f x) h
  | accv m n=>exact AVal.map1_congr (x:=.accv m n) h
  | accp m n=>exact AVal.map1_congr (x:=.accp m n) h
theorem AObj.map_congr {φ ψ : Nm→Nm} {o : AObj} (h : ∀ x ∈ o.cls,∀ q,x.at q→φ q = ψ q) : o.map φ = o.map ψ:=by
  cases o with
  | cells ty cs=>simp only [AObj.map,Cell.maps_congr (cs:=cs) h]
  | ints ty k L=>rfl
  | fix x=>rfl
  | row ty cs=>simp only [AObj.map,Cell.maps_congr (cs:=cs) h]
  | acc ty sz L =>
    simp only [AObj.map]
    congr 1
    exact List.map_congr_left fun c hc=>Cell.maps_congr fun x hx q hq=>h x (List.mem_flatten.2 ⟨c,hc,hx⟩) q hq
def AObj.nm0 (o : AObj) : Prop:=∀ x ∈ o.cls,∀ m,¬ x.at m
theorem AObj.map_nm0 {φ : Nm→Nm} {o : AObj} (h : o.nm0) : o.map φ = o:=by
  rw [AObj.map_congr (ψ:=id) fun x hx q hq=>absurd hq (h x hx q),AObj.map_id]
theorem AObj.cl_nm0 {S : Store} {o : AObj} (h : o.nm0) : o.cl S:=AObj.cl_cls.2 fun x hx m hm=>absurd hm (h x hx m)
theorem map_old {S : Store} {n : Nm} {g : Nm→Nm} {o : AObj} (hne : ∀ m,S m ≠ none→¬ (m.isNew n = true)) (hc : o.cl S) : (o.map fun m=>if m.isNew n = true then g m else .out m) = o.map .out :=
  AObj.map_congr fun x hx q hq=>if_neg (hne q (AObj.cl_cls.1 hc x hx q hq))
theorem old_ne {S : Store} {n : Nm} (hn : S n = none) (hnf : ∀ i,S (.fam n i) = none) : ∀ m,S m ≠ none→¬ (m.isNew n = true):=fun m hm e=>by
  rcases Nm.isNew_t e with rfl | ⟨i,rfl⟩
  · exact hm hn
  · exact hm (hnf i)

def Fin (P : Program) (fn : Func) (S : Store) (n : Nm) (res : AVal) (ups : List (Nm × AObj)) (st : St) : Prop :=
  ∃ (rs : List AVal) (g : Nm→Nm),ressE P st fn.results.toList rs∧(∀ x ∈ rs,rs.length = 1 ∨ (x.flat∧∀ m o,x ≠ .accv m o∧x ≠ .accp m o))∧(∀ m : Nm,Nm.isOut (g m) = false) ∧
    Back (fun m=>if m.isNew n = true then g m else .out m) st.sg (updL S ups)∧res.cl (updL S ups)∧oneR rs = res.map (fun m=>if m.isNew n = true then g m else .out m)

theorem acalls {f : FuncId} {fn : Func} {c : Code} {args : List AVal} {Φ : Store} {res : Nm→AVal} {ups : Nm→List (Nm × AObj)} (hf : P.funcs[f]? = some fn) (hb : fn.body = some c) (hname : (fn.name == "runtime.NumGoroutine") = false)
    (hm : P.follows .mixedOrders = true) (hok : okC fn.ntmps mu c = true) (hl : args.length ≤ fn.ntmps)
    (h : ∀ n S,(∀ m,Rch Φ args m→S m = Φ m)→S n = none→(∀ i,S (.fam n i) = none)→(∀ n b,S n = some b→b.cl S) →
      awp P mu fn.ntmps c (fun e st=>(e = .normal ∨ e = .ret)∧Fin P fn S n (res n) (ups n) st) ⟨entryF args,pushS S⟩) : ACalls P f args Φ res ups:=by
  intro n S hag hn hnf w ρ vs he hgl hvs
  have hn' : ¬ fn.name = "runtime.NumGoroutine":=by simpa using hname
  refine .inl ⟨by simp [callFunc,hf,hn',hb],?_⟩
  have hcl:=he.cl
  have hback:=back_push hcl
  have henv:=hback.env he
  have hsize : (vs.toArray ++ Array.replicate (fn.ntmps - vs.toArray.size) undef).size = fn.ntmps:=by
    have:=hvs.1
    simp;omega
  refine calls_of_wp hf hb (Code.wp_mono ?_ (h n S hag hn hnf hcl hm hok ⟨w,fun m=>ρ m.unout,pushS S⟩ w (fun m=>ρ m.unout) ⟨vs.toArray ++ Array.replicate (fn.ntmps - vs.toArray.size) undef,[]⟩ rfl hsize
    ⟨⟨henv.inj,henv.obj,fun t=>?_,fun g cs hg=>(hgl g cs hg).imp fun b hb=>⟨⟨hb.1,fun m o hm hr=>by
      obtain ⟨q,b',rfl,q1,rfl⟩:=pushS_some hm
      exact hb.2 q b' q1 (by rw [AObj.real_map] at hr;exact hr)⟩,fun _=>rfl⟩⟩,Ext.refl _ _ _,fun m o hm=>by obtain ⟨a,b,rfl,-,-⟩:=pushS_some hm;rfl⟩))
  · rintro e a' w' ⟨hd,hN,st',ρ',hinv,hex,rs,g,h1,h2,h3,h4,h5,h6⟩
    obtain ⟨us,h7,h8⟩:=run_results hinv.sim fn.results.toList rs h1
    have hrun : ∃ v,(results fn a'.tmps).run P w' = .ok v w'∧VS w' ρ' st'.sg (oneR rs) v:=by
      have e1 : (results fn a'.tmps).run P w' = .ok (if h : us.toArray.size = 1 then us.toArray[0] else .tuple us.toArray) w':=by
        rw [results_eq,← Array.toArray_toList (xs:=fn.results),List.mapM_toArray]
        simp only [Sem.run_bind,Sem.run_map,h7,Result.andThen_ok,Sem.run_pure]
      exact ⟨_,e1,oneR_held rs us h8 h2⟩
    obtain ⟨v,hv1,hv2⟩:=hrun
    rw [h6] at hv2
    have hR : ∃ ρ' v_1,Ending.returned v = .returned v_1∧EnvS w' ρ' (updL S (ups n))∧Ext (fun _=>False) w ρ S w' ρ' (updL S (ups n))∧VS w' ρ' (updL S (ups n)) (res n) v_1:=by
      refine ⟨_,v,rfl,h4.env hinv.sim.env,?_,h4.vs h5 hv2⟩
      have hx:=hinv.ext
      have hne : ∀ {m o},S m = some o→¬ (m.isNew n = true):=fun hm e=>by
        rcases Nm.isNew_t e with rfl | ⟨i,rfl⟩
        · rw [hn] at hm;cases hm
        · rw [hnf] at hm;cases hm
      have hφ : ∀ m k,(fun m : Nm=>if m.isNew n = true then g m else Nm.out m) m = .out k→m = k:=by
        intro m k e
        by_cases q : m.isNew n = true
        · simp only [if_pos q] at e;have:=h3 m;rw [e] at this;cases this
        · simp only [if_neg q] at e;injection e
      refine ⟨hx.os,hx.tape,hx.output,hx.size,fun b hb1 hb2=>hx.old b hb1 (fun m o hm hr=>?_),fun m o' hm hr=>?_,fun m o hm ha=>?_,fun m o _ hm hr ty q hq=>?_,fun m ty k L _ hm=>?_,fun _ h=>h.elim⟩
      · obtain ⟨q,b',rfl,q1,rfl⟩:=pushS_some hm
        exact hb2 q b' q1 (by rw [AObj.real_map] at hr;exact hr)
      · have h9:=h4.at_ m o' hm
        rcases hx.nms _ _ h9 (by rw [AObj.real_map];exact hr) with ⟨o,a1,a2,a3⟩ | a1
        · obtain ⟨q,b',e1,q1,rfl⟩:=pushS_some a1
          by_cases e : m.isNew n = true
          · simp only [if_pos e] at e1
            have:=h3 m
            rw [e1] at this;cases this
          · simp only [if_neg e] at e1
            injection e1 with e1
            subst e1
            refine .inl ⟨b',q1,by rw [AObj.real_map] at a2;exact a2,?_⟩
            simp only [if_neg e] at a3 ⊢
            exact a3
        · exact .inr a1
      · have e:=hne hm
        obtain ⟨o1,a1,a2,a3⟩:=hx.kp (.out m) (o.map .out) (by simp [pushS,hm]) (by rw [AObj.acc_map];exact ha)
        cases hq : updL S (ups n) m with
        | none=>exact absurd hq (updL_dom _ _ _ (by rw [hm];simp))
        | some o' =>
          have h9:=h4.at_ m o' hq
          simp only [if_neg e] at h9
          rw [a1] at h9
          obtain rfl:=Option.some.inj h9
          exact ⟨o',rfl,by rw [AObj.acc_map] at a2;exact a2,by simp only [if_neg e];exact a3⟩
      · exact hx.szs (.out m) (o.map .out) (fun h=>h) (by simp [pushS,hm]) (by rw [AObj.real_map];exact hr) ty q hq
      · have e:=hne hm
        obtain ⟨a1,a2⟩:=hx.acc (.out m) ty k (L.map (·.map (·.map .out))) (fun h=>h) (by simp [pushS,hm,AObj.map])
        cases hq : updL S (ups n) m with
        | none=>exact absurd hq (updL_dom _ _ _ (by rw [hm];simp))
        | some o' =>
          have h9:=h4.at_ m o' hq
          simp only [if_neg e] at h9
          rw [a1] at h9
          have h10:=Option.some.inj h9
          clear h9
          cases o' with
          | acc ty' k' L' =>
            simp only [AObj.map,AObj.acc.injEq] at h10
            obtain ⟨rfl,rfl,h11⟩:=h10
            obtain rfl:=Cell.mapss_out hφ h11.symm
            exact ⟨rfl,fun hl=>by simp only [if_neg e];exact a2 (by simpa using hl)⟩
          | cells _ _=>simp [AObj.map] at h10
          | ints _ _ _=>simp [AObj.map] at h10
          | fix _=>simp [AObj.map] at h10
          | row _ _=>simp [AObj.map] at h10
    rcases hex with rfl | rfl
    · exact ⟨hd,v,hv1,hR⟩
    · exact ⟨hd,v,hv1,hR⟩
  · simp only [entryF]
    cases e : args[t]? with
    | none =>
      have hge : args.length ≤ t:=by simpa using e
      have hlen:=hvs.1
      simp only
      have : (vs.toArray ++ Array.replicate (fn.ntmps - vs.toArray.size) undef).getD t undef = undef:=by
        rw [Array.getD_eq_getD_getElem?]
        rcases Nat.lt_or_ge t fn.ntmps with q | q
        · rw [Array.getElem?_append_right (by simp;omega)]
          simp [show t - vs.length < fn.ntmps - vs.length by omega]
        · rw [Array.getElem?_eq_none (by rw [hsize];exact q)];rfl
      rw [this]
      rfl
    | some x =>
      obtain ⟨u,h1,h2⟩:=hvs.2 t x e
      have hlt : t < vs.length:=by
        rcases Nat.lt_or_ge t vs.length with q | q
        · exact q
        · rw [List.getElem?_eq_none q] at h1;cases h1
      have : (vs.toArray ++ Array.replicate (fn.ntmps - vs.toArray.size) undef).getD t undef = u:=by
        rw [Array.getD_eq_getD_getElem?,Array.getElem?_append_left (by simpa using hlt)]
        simp [h1]
      rw [this]
      refine hback.vs (fun m hm=>?_) ?_
      · obtain ⟨q,hq,rfl⟩:=AVal.map_at hm
        have:=h2.cl q hq
        cases e2 : S q with
        | none=>exact absurd e2 this
        | some z=>simp [pushS,e2]
      · rw [AVal.map_map]
        have : (fun m=>Nm.unout (Nm.out m)) = id:=rfl
        rw [this,AVal.map_id]
        exact h2
end
end Go.Abs
