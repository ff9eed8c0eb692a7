/-
  An abstract machine for this program, and contracts of its functions: part Mae (no statement by itself).
-/
import Derived.Test.YtdbjhcgogmfghaaGreatDoorMad
set_option linter.unusedVariables false
set_option linter.unusedSimpArgs false
set_option linter.unnecessarySimpa false

/-
  Contracts from bodies, told by lists.
-/
namespace Go.Abs
open Go

section
variable {P : Program} {mu : FuncId→Bool} {N : Nat} {Q : Exit→St→Prop} {st : St}

theorem awp_post {c : Code} (h : awp P mu N c (fun e st=>∃ F,Weak st F∧Q e F) st) : awp P mu N c Q st:=fun hm hok B w ρ a hd hn hi =>
  Code.wp_mono (fun e a w ⟨h1,h2,st',ρ',h3,F,h4,h5⟩=>by
    obtain ⟨ρ2,h6⟩:=h3.weak h4
    exact ⟨h1,h2,F,ρ2,h6,h5⟩) (h hm hok B w ρ a hd hn hi)

theorem Cell.map_nm0 {φ : Nm→Nm} {x : Cell} (h : ∀ m,¬ x.at m) : x.map φ = x:=by
  cases x <;> first | rfl | exact absurd rfl (h _)
theorem Cell.maps_nm0 {φ : Nm→Nm} {cs : List Cell} (h : ∀ x ∈ cs,∀ m,¬ x.at m) : cs.map (·.map φ) = cs:=by
  conv=>rhs;rw [← List.map_id cs]
  exact List.map_congr_left fun x hx=>Cell.map_nm0 (h x hx)
theorem AVal.map1_nm0 {φ : Nm→Nm} {x : AVal} (h : ∀ m,¬ x.at1 m) : x.map1 φ = x:=by
  cases x with
  | c x=>simp only [AVal.map1,Cell.map_nm0 (x:=x) h]
  | agg cs=>simp only [AVal.map1,Cell.maps_nm0 (cs:=cs) fun x hx m hm=>h m ⟨x,hx,hm⟩]
  | fn f cs=>simp only [AVal.map1,Cell.maps_nm0 (cs:=cs) fun x hx m hm=>h m ⟨x,hx,hm⟩]
  | accv m n=>exact absurd rfl (h m)
  | accp m n=>exact absurd rfl (h m)
  | tup xs=>rfl
theorem AVal.map_nm0 {φ : Nm→Nm} {x : AVal} (h : nm0 x) : x.map φ = x:=by
  cases x with
  | tup xs =>
    have : xs.map (·.map1 φ) = xs:=by
      conv=>rhs;rw [← List.map_id xs]
      exact List.map_congr_left fun x hx=>AVal.map1_nm0 fun m hm=>h m ⟨x,hx,hm⟩
    simp only [AVal.map,this]
  | c x=>exact AVal.map1_nm0 (x:=.c x) h
  | agg x=>exact AVal.map1_nm0 (x:=.agg x) h
  | fn f x=>exact AVal.map1_nm0 (x:=.fn f x) h
  | accv m n=>exact absurd rfl (h m)
  | accp m n=>exact absurd rfl (h m)

def entryL : Nat→List AVal→FL
  | _,[]=>[]
  | n,x :: xs=>(n,x) :: entryL (n + 1) xs
theorem entryL_lk : ∀ (xs : List AVal) (n t : Nat),lkO (entryL n xs) t = if n ≤ t then xs[t - n]? else none
  | [],n,t=>by simp [entryL,lkO]
  | x :: xs,n,t=>by
    simp only [entryL,lkO]
    by_cases e : n = t
    · subst e;simp [Nat.beq_refl]
    · have : Nat.beq n t = false:=by
        cases q : Nat.beq n t with
        | false=>rfl
        | true=>exact absurd (Nat.eq_of_beq_eq_true q) e
      rw [this]
      simp only
      rw [entryL_lk xs (n + 1) t]
      by_cases h : n ≤ t
      · rw [if_pos (by omega),if_pos h,show t - n = (t - (n + 1)) + 1 by omega,List.getElem?_cons_succ]
      · rw [if_neg (by omega),if_neg h]

def resL (T : TT) (fl : FL) : List ResultVar→Option (List AVal)
  | []=>some []
  | .tmp t :: r=>match lkO fl t,resL T fl r with
    | some v,some vs=>some (v :: vs)
    | _,_=>none
  | .cell a t :: r=>match lkO fl a,agT T t,celT T t,resL T fl r with
    | some (.c (.pim cs)),some true,n + 1,some vs=>match Nat.ble (n + 1) cs.length with
      | true=>some (.agg ((cs.take (n + 1)).map Leaf.cell) :: vs)
      | false=>none
    | _,_,_,_=>none
theorem resL_spec {T : TT} (hT : TOk P T) {S : Store} {fl : FL} : ∀ {rs : List ResultVar} {vs : List AVal},resL T fl rs = some vs→ressE P ⟨lk' fl,S⟩ rs vs
  | [],vs,h=>by simp only [resL,Option.some.injEq] at h;exact h.symm
  | .tmp t :: r,vs,h=>by
    simp only [resL] at h
    split at h
    · rename_i v vs' h1 h2
      exact ⟨v,vs',(lkO_look h1).symm,resL_spec hT h2,(Option.some.inj h).symm⟩
    · cases h
  | .cell a t :: r,vs,h=>by
    simp only [resL] at h
    split at h
    · rename_i cs n vs' h1 h2 h3 h4
      split at h
      · rename_i h5
        have h5:=Nat.le_of_ble_eq_true h5
        have h3:=hT.cel h3 (by simp)
        refine ⟨_,vs',?_,resL_spec hT h4,(Option.some.inj h).symm⟩
        simp only [resE]
        rw [lkO_look h1]
        exact .inl ⟨hT.ag h2,by omega,by omega,by rw [h3]⟩
      · cases h
    · cases h

def flatL : List AVal→Bool
  | []=>true
  | [_]=>true
  | xs=>xs.all fun x=>match x with | .tup _=>false | .accv _ _=>false | .accp _ _=>false | _=>true
theorem flatL_spec {xs : List AVal} (h : flatL xs = true) : ∀ x ∈ xs,xs.length = 1 ∨ (x.flat∧∀ m o,x ≠ .accv m o∧x ≠ .accp m o):=by
  intro x hx
  match xs,h with
  | [_],_=>exact .inl rfl
  | a :: b :: r,h =>
    refine .inr ?_
    have:=List.all_eq_true.1 h x hx
    cases x <;> first | (cases this;done) | exact ⟨trivial,fun m o=>⟨fun q=>(by cases q),fun q=>(by cases q)⟩⟩

theorem undef_weak {fl : FL} {fr : Fram} {S : Store} (h : ∀ t v,lkO fl t = some v→fr t = v) : Weak ⟨fr,S⟩ ⟨lk' fl,S⟩:=fun w ρ tm hs=>by
  refine ⟨ρ,⟨hs.inj,hs.obj,fun t=>?_,hs.gl⟩,fun m o hm hr=>⟨m,o,hm,hr,rfl,fun _=>rfl⟩,fun _ _=>⟨rfl,rfl⟩⟩
  simp only [lk']
  cases e : lkO fl t with
  | none=>trivial
  | some v=>have : VS w ρ S (fr t) (tm.getD t undef):=hs.fr t;rw [h t v e] at this;exact this

theorem entry_weak (args : List AVal) (S : Store) : Weak ⟨entryF args,pushS S⟩ ⟨lk' (entryL 0 (args.map (·.map .out))),ov [] (pushS S)⟩ :=
  undef_weak (S:=pushS S) fun t v h=>by
    rw [entryL_lk] at h
    simp only [Nat.zero_le,if_true,Nat.sub_zero,List.getElem?_map,Option.map_eq_some_iff] at h
    obtain ⟨x,h1,h2⟩:=h
    simp only [entryF,h1,h2]

theorem ov_self {sl : SL} {S : Store} (h : ∀ m o,lkS sl m = some o→S m = some o) : ov sl S = S:=by
  funext m
  simp only [ov]
  split
  · rename_i o e;exact (h m o e).symm
  · rfl

def EndF (P : Program) (fn : Func) (S : Store) (res : AVal) (e : Exit) (st : St) : Prop :=
  (e = .normal ∨ e = .ret)∧∃ T fl vs,TOk P T∧Weak st ⟨lk' fl,ov [] (pushS S)⟩∧resL T fl fn.results.toList = some vs∧flatL vs = true∧oneR vs = res

theorem afun {f : FuncId} {fn : Func} {c : Code} {args : List AVal} {res : AVal} (hf : P.funcs[f]? = some fn) (hb : fn.body = some c) (hname : (fn.name == "runtime.NumGoroutine") = false)
    (hm : P.follows .mixedOrders = true) (hok : okC fn.ntmps mu c = true) (hl : args.length ≤ fn.ntmps) (ha : ∀ x ∈ args,nm0 x) (hr : nm0 res)
    (h : ∀ S,(∀ n b,S n = some b→b.cl S)→awp P mu fn.ntmps c (EndF P fn S res) ⟨lk' (entryL 0 args),ov [] (pushS S)⟩) : AFun P f args res:=by
  refine ⟨fun Φ=>acalls hf hb hname hm hok hl fun n S _ hn hnf hcl=>?_,hr,ha⟩
  refine awp_weak _ (entry_weak args S) ?_
  have e1 : args.map (·.map .out) = args:=by
    conv=>rhs;rw [← List.map_id args]
    exact List.map_congr_left fun x hx=>AVal.map_nm0 (ha x hx)
  rw [e1]
  refine awp_post (awp_mono (h S hcl) ?_)
  rintro e st ⟨he,T,fl,vs,hT,h1,h2,h3,h4⟩
  have hne:=old_ne hn hnf
  refine ⟨_,h1,he,vs,fun _=>.new,resL_spec hT h2,flatL_spec h3,fun _=>rfl,?_,fun m hm=>absurd hm (hr m),by rw [h4,AVal.map_nm0 hr]⟩
  refine ⟨fun m m' h1 h2 e=>?_,fun m o hm=>?_,fun m o hm=>hcl m o hm⟩
  · rw [if_neg (hne m h1),if_neg (hne m' h2)] at e;injection e
  · have hm' : S m = some o:=hm
    rw [map_old hne (hcl m o hm')]
    show ov [] (pushS S) _ = _
    simp only [ov,lkS,if_neg (hne m (by rw [hm'];simp)),pushS,hm']
    rfl
theorem endF {T : TT} (hT : TOk P T) {fn : Func} {S : Store} {res : AVal} {e : Exit} {fl fl' : FL} {sl : SL} {vs : List AVal} (he : e = .normal ∨ e = .ret) (hS : ∀ n b,S n = some b→b.cl S) (ho : outsL sl = []) (hf : FrzF (ov sl (pushS S)) (ov [] (pushS S)) fl fl')
    (hr : resL T fl' fn.results.toList = some vs) (hfl : flatL vs = true) (h1 : oneR vs = res) : EndF P fn S res e ⟨lk' fl,ov sl (pushS S)⟩ :=
  ⟨he,T,fl',vs,hT,frz hS (by rw [ho];rfl) trivial hf,hr,hfl,h1⟩

theorem kI {A B : Store} {k : IntKind} {L L' : List Int} (h : L = L') : FrzV A B (.c (.ints k L)) (.c (.ints k L')):=by
  subst h;exact .c (.base (.keep (fun m h=>h.elim)))
theorem kN {A B : Store} {k : IntKind} {n n' : Int} (h : n = n') : FrzV A B (ivl k n) (ivl k n'):=by
  subst h;exact .c (.base (.keep (fun m h=>h.elim)))
theorem kW {A B : Store} {m : Nm} {off len cm : Nat} {ty : TypeId} {k : IntKind} {L L' : List Int} (hm : A m = some (.ints ty k L)) (hb : B m = none) (hl : off + len ≤ L.length) (e : (L.drop off).take len = L') :
    FrzV A B (.c (.win m off len cm)) (.c (.ints k L')):=.c (.base (.win hm hb hl e.symm))
theorem kS {A B : Store} {v : Value} : FrzV A B (.c (.sc v)) (.c (.sc v)):=.c (.base (.keep (fun m h=>h.elim)))
theorem kJ {A B : Store} {k : IntKind} : FrzV A B nils (.c (.ints k [])):=.c (.base .nilI)
theorem kWin {A B : Store} {m : Nm} {off len cm off' len' cm' : Nat} (hb : B m ≠ none) (h1 : off = off') (h2 : len = len') (h3 : cm = cm') : FrzV A B (.c (.win m off len cm)) (.c (.win m off' len' cm')):=by
  subst h1;subst h2;subst h3;exact .c (.base (.keep (fun q h=>by have e : m = q:=h;rw [← e];exact hb)))
theorem kO {A B : Store} {ty : TypeId} {k : IntKind} {L L' : List Int} (h : L = L') : FrzO A B (.ints ty k L) (.ints ty k L'):=by subst h;exact .ints
theorem kA {A B : Store} {ty : TypeId} {k : IntKind} {L L' : List Int} (h : L = L') : FrzO A B (.accI ty k L) (.accI ty k L'):=by
  subst h
  refine .acc ⟨rfl,fun i c c' hi hi'=>?_⟩
  rw [hi] at hi';obtain rfl:=Option.some.inj hi'
  refine ⟨rfl,fun j x y hj hj'=>?_⟩
  rw [hj] at hj';obtain rfl:=Option.some.inj hj'
  obtain ⟨z,-,rfl⟩:=List.mem_map.1 (List.mem_of_getElem? hi)
  have:=List.mem_of_getElem? hj
  simp only [List.mem_singleton] at this
  subst this
  exact .keep fun m h=>h.elim
end
end Go.Abs

/-
  Limbs reckoned with: steps told in natural numbers.
-/
namespace Go.Abs
open Go

theorem wrap_u64 (n : Nat) : IntKind.u64.wrap (n : Int) = ((n % 18446744073709551616 : Nat) : Int):=by
  simp [IntKind.wrap,IntKind.bits,IntKind.signed]
theorem wrap_u64i (n : Int) : IntKind.u64.wrap n = n % 18446744073709551616:=by
  simp [IntKind.wrap,IntKind.bits,IntKind.signed]
theorem bv_nat (n : Nat) : (BitVec.ofInt IntKind.u64.bits (n : Int)).toNat = n % 18446744073709551616:=by
  simp [IntKind.bits]

section
variable {P : Program} {mu : FuncId→Bool} {ops : Array Oper} {fl : FL} {K : St→Prop} {S' : Store} {d : Nat} {ty : TypeId} {pos : String} {after : Array Edge} {t0 t1 : TypeId} {x y : Operand} {k' : IntKind} {a b : Int}

theorem stp_of {op : BinOp} {k : IntKind} {v : AVal} (hx : opO fl x = some (ivl k a)) (hy : opO fl y = some (ivl k' b)) (h : binE P op t0 (ivl k a) (ivl k' b) v) (kk : K ⟨lk' ((d,v) :: fl),S'⟩) :
    Stp P mu ops ⟨some d,.binOp op t0 x y t1,ty,pos,after,none⟩ ⟨lk' fl,S'⟩ K :=
  ⟨⟨putF (lk' fl) (some d) v,S'⟩,⟨_,S',⟨.inl (by simp only [PE0];rw [opO_look hx,opO_look hy];exact h),rfl⟩,rfl⟩,by rw [putF_lk];exact kk⟩

theorem stp_mul (A C : Int) (hx : opO fl x = some (ivl .u64 a)) (hy : opO fl y = some (ivl .u64 b)) (ha : 0 ≤ a∧a ≤ A) (hb : 0 ≤ b∧b ≤ C) (hAC : A * C < 18446744073709551616)
    (kk : ∀ p,p = a * b→0 ≤ p→p ≤ A * C→K ⟨lk' ((d,ivl .u64 p) :: fl),S'⟩) : Stp P mu ops ⟨some d,.binOp .mul t0 x y t1,ty,pos,after,none⟩ ⟨lk' fl,S'⟩ K:=by
  have h0 : 0 ≤ a * b:=Int.mul_nonneg ha.1 hb.1
  have h1 : a * b ≤ A * C:=Int.le_trans (Int.mul_le_mul_of_nonneg_right ha.2 hb.1) (Int.mul_le_mul_of_nonneg_left hb.2 (Int.le_trans ha.1 ha.2))
  refine stp_of hx hy ?_ (kk _ rfl h0 h1)
  simp only [binE,isShift]
  exact ⟨trivial,by rw [show intE .mul .u64 a b _ = (_ = ivl .u64 (IntKind.u64.wrap (a * b))) from rfl,wrap_in (k:=.u64) ⟨h0,by omega⟩]⟩

theorem stp_mulW (m n : Nat) (hx : opO fl x = some (ivl .u64 a)) (hy : opO fl y = some (ivl .u64 b)) (ha : a = m) (hb : b = n) (kk : K ⟨lk' ((d,ivl .u64 ((m * n % 18446744073709551616 : Nat) : Int)) :: fl),S'⟩) :
    Stp P mu ops ⟨some d,.binOp .mul t0 x y t1,ty,pos,after,none⟩ ⟨lk' fl,S'⟩ K:=by
  subst ha;subst hb
  refine stp_of hx hy ?_ kk
  simp only [binE,isShift]
  exact ⟨trivial,by rw [show intE .mul .u64 (m : Int) n _ = (_ = ivl .u64 (IntKind.u64.wrap ((m : Int) * n))) from rfl,← Int.natCast_mul,wrap_u64]⟩

theorem stp_mulN (m n : Nat) (hx : opO fl x = some (ivl .u64 a)) (hy : opO fl y = some (ivl .u64 b)) (ha : a = m) (hb : b = n) (h : m * n < 18446744073709551616) (kk : K ⟨lk' ((d,ivl .u64 ((m * n : Nat) : Int)) :: fl),S'⟩) :
    Stp P mu ops ⟨some d,.binOp .mul t0 x y t1,ty,pos,after,none⟩ ⟨lk' fl,S'⟩ K :=
  stp_mulW m n hx hy ha hb (by rw [Nat.mod_eq_of_lt h];exact kk)

theorem stp_quoN {m n : Nat} (hx : opO fl x = some (ivl .u64 (m : Int))) (hy : opO fl y = some (ivl .u64 (n : Int))) (h : m < 18446744073709551616∧n ≠ 0) (kk : K ⟨lk' ((d,ivl .u64 ((m / n : Nat) : Int)) :: fl),S'⟩) :
    Stp P mu ops ⟨some d,.binOp .quo t0 x y t1,ty,pos,after,none⟩ ⟨lk' fl,S'⟩ K:=by
  refine stp_of hx hy ?_ kk
  simp only [binE,isShift]
  have hle:=Nat.div_le_self m n
  refine ⟨trivial,show (n : Int) ≠ 0∧_ = ivl .u64 (IntKind.u64.wrap ((m : Int).tdiv n)) from ⟨by omega,?_⟩⟩
  rw [Int.tdiv_eq_ediv_of_nonneg (Int.natCast_nonneg _),← Int.natCast_ediv,wrap_u64,Nat.mod_eq_of_lt (by omega)]
theorem stp_remN {m n : Nat} (hx : opO fl x = some (ivl .u64 (m : Int))) (hy : opO fl y = some (ivl .u64 (n : Int))) (h : n ≠ 0) (kk : K ⟨lk' ((d,ivl .u64 ((m % n : Nat) : Int)) :: fl),S'⟩) :
    Stp P mu ops ⟨some d,.binOp .rem t0 x y t1,ty,pos,after,none⟩ ⟨lk' fl,S'⟩ K:=by
  refine stp_of hx hy ?_ kk
  simp only [binE,isShift]
  refine ⟨trivial,show (n : Int) ≠ 0∧_ = ivl .u64 ((m : Int).tmod n) from ⟨by omega,?_⟩⟩
  rw [Int.tmod_eq_emod_of_nonneg (Int.natCast_nonneg _),← Int.natCast_emod]

theorem stp_subW (hx : opO fl x = some (ivl .u64 a)) (hy : opO fl y = some (ivl .u64 b)) (kk : K ⟨lk' ((d,ivl .u64 ((a - b) % 18446744073709551616)) :: fl),S'⟩) :
    Stp P mu ops ⟨some d,.binOp .sub t0 x y t1,ty,pos,after,none⟩ ⟨lk' fl,S'⟩ K:=by
  refine stp_of hx hy ?_ kk
  simp only [binE,isShift]
  exact ⟨trivial,by rw [← wrap_u64i];rfl⟩

theorem stp_mask (hx : opO fl x = some (ivl .u64 a)) (hy : opO fl y = some (ivl .u64 4294967295)) (h0 : 0 ≤ a) (kk : K ⟨lk' ((d,ivl .u64 (a % 4294967296)) :: fl),S'⟩) :
    Stp P mu ops ⟨some d,.binOp .and t0 x y t1,ty,pos,after,none⟩ ⟨lk' fl,S'⟩ K:=by
  obtain ⟨n,rfl⟩:=Int.eq_ofNat_of_zero_le h0
  refine stp_of hx hy ?_ kk
  simp only [binE,isShift]
  refine ⟨trivial,?_⟩
  rw [show intE .and .u64 (n : Int) 4294967295 _ = (_ = ivl .u64 (IntKind.u64.wrap (BitVec.ofInt IntKind.u64.bits (n : Int) &&& BitVec.ofInt IntKind.u64.bits 4294967295).toNat)) from rfl]
  rw [wrap_u64,BitVec.toNat_and,bv_nat,show ((4294967295 : Int)) = ((4294967295 : Nat) : Int) from rfl,bv_nat,show 4294967295 % 18446744073709551616 = 2 ^ 32 - 1 from rfl,Nat.and_two_pow_sub_one_eq_mod]
  congr 3
  omega

theorem stp_orN (m n : Nat) (hx : opO fl x = some (ivl .u64 a)) (hy : opO fl y = some (ivl .u64 b)) (ha : a = m) (hb : b = n) (hm : m < 18446744073709551616) (hn : n < 18446744073709551616) (kk : K ⟨lk' ((d,ivl .u64 ((m ||| n : Nat) : Int)) :: fl),S'⟩) :
    Stp P mu ops ⟨some d,.binOp .or t0 x y t1,ty,pos,after,none⟩ ⟨lk' fl,S'⟩ K:=by
  subst ha;subst hb
  refine stp_of hx hy ?_ kk
  simp only [binE,isShift]
  refine ⟨trivial,?_⟩
  rw [show intE .or .u64 (m : Int) n _ = (_ = ivl .u64 (IntKind.u64.wrap (BitVec.ofInt IntKind.u64.bits (m : Int) ||| BitVec.ofInt IntKind.u64.bits n).toNat)) from rfl]
  rw [wrap_u64,BitVec.toNat_or,bv_nat,bv_nat,Nat.mod_eq_of_lt hm,Nat.mod_eq_of_lt hn,Nat.mod_eq_of_lt (show m ||| n < 2 ^ 64 from Nat.or_lt_two_pow hm hn)]

theorem stp_shlN (m s : Nat) (hx : opO fl x = some (ivl .u64 a)) (hy : opO fl y = some (ivl k' b)) (ha : a = m) (hb : b = s) (kk : K ⟨lk' ((d,ivl .u64 ((m * 2 ^ s % 18446744073709551616 : Nat) : Int)) :: fl),S'⟩) :
    Stp P mu ops ⟨some d,.binOp .shl t0 x y t1,ty,pos,after,none⟩ ⟨lk' fl,S'⟩ K:=by
  subst ha;subst hb
  refine stp_of hx hy ?_ kk
  simp only [binE,isShift,if_true]
  refine ⟨Int.natCast_nonneg _,?_⟩
  rw [Int.toNat_natCast,show ((m : Int) * 2 ^ (min s IntKind.u64.bits)) = ((m * 2 ^ (min s 64) : Nat) : Int) by simp [IntKind.bits],wrap_u64]
  suffices hh : m * 2 ^ s % 18446744073709551616 = m * 2 ^ min s 64 % 18446744073709551616 by rw [hh]
  rcases Nat.lt_or_ge s 64 with h | h
  · rw [Nat.min_eq_left (by omega)]
  · rw [Nat.min_eq_right h]
    have e : 2 ^ s = 2 ^ 64 * 2 ^ (s - 64):=by rw [← Nat.pow_add];congr 1;omega
    rw [e,Nat.mul_left_comm,Nat.mul_comm m]
    rw [show (18446744073709551616 : Nat) = 2 ^ 64 from rfl,Nat.mul_mod_right,Nat.mul_mod_left]

theorem stp_shrN (m s : Nat) (hx : opO fl x = some (ivl .u64 a)) (hy : opO fl y = some (ivl k' b)) (ha : a = m) (hb : b = s) (hm : m < 18446744073709551616) (kk : K ⟨lk' ((d,ivl .u64 ((m / 2 ^ s : Nat) : Int)) :: fl),S'⟩) :
    Stp P mu ops ⟨some d,.binOp .shr t0 x y t1,ty,pos,after,none⟩ ⟨lk' fl,S'⟩ K:=by
  subst ha;subst hb
  refine stp_of hx hy ?_ kk
  simp only [binE,isShift,if_true]
  refine ⟨Int.natCast_nonneg _,?_⟩
  rw [Int.toNat_natCast,Int.fdiv_eq_ediv_of_nonneg _ (Int.le_of_lt (Int.pow_pos (by decide))),show ((2 : Int) ^ (min s IntKind.u64.bits)) = ((2 ^ (min s 64) : Nat) : Int) by simp [IntKind.bits],← Int.natCast_ediv]
  suffices hh : m / 2 ^ s = m / 2 ^ min s 64 by rw [hh]
  rcases Nat.lt_or_ge s 64 with h | h
  · rw [Nat.min_eq_left (by omega)]
  · rw [Nat.min_eq_right h,Nat.div_eq_of_lt (Nat.lt_of_lt_of_le hm (by show 2 ^ 64 ≤ 2 ^ s;exact Nat.pow_le_pow_right (by decide) h)),Nat.div_eq_of_lt hm]

def p2T : Int→Option Int
  | .ofNat 1=>some 2
  | .ofNat 8=>some 256
  | .ofNat 16=>some 65536
  | .ofNat 32=>some 4294967296
  | _=>none
theorem p2T_spec {s c : Int} (h : p2T s = some c) : (2 : Int) ^ (min s.toNat IntKind.u64.bits) = c∧0 ≤ s:=by
  unfold p2T at h
  split at h <;> first | cases h;done | (obtain rfl:=Option.some.inj h;exact ⟨by decide,by decide⟩)

theorem stp_shrC {c : Int} (hx : opO fl x = some (ivl .u64 a)) (hy : opO fl y = some (ivl k' b)) (hc : p2T b = some c) (kk : K ⟨lk' ((d,ivl .u64 (a / c)) :: fl),S'⟩) :
    Stp P mu ops ⟨some d,.binOp .shr t0 x y t1,ty,pos,after,none⟩ ⟨lk' fl,S'⟩ K:=by
  obtain ⟨h1,h2⟩:=p2T_spec hc
  refine stp_of hx hy ?_ kk
  simp only [binE,isShift,if_true]
  refine ⟨h2,?_⟩
  rw [h1,Int.fdiv_eq_ediv_of_nonneg]
  rw [← h1];exact Int.le_of_lt (Int.pow_pos (by decide))

theorem stp_sind' {T : TT} (hT : TOk P T) {i : Operand} {t : Nat} {s : ByteArray} {k : IntKind} {j : Int} (n : Nat) (hu : undT T t = some .string)
    (hx : opO fl x = some (.c (.sc (.string s)))) (hi : opO fl i = some (ivl k j)) (h0 : 0 ≤ j) (hb : ∃ b,s[j.toNat]? = some b∧b.toNat = n) (kk : K ⟨lk' ((d,ivl .u8 n) :: fl),S'⟩) :
    Stp P mu ops ⟨some d,.index t x i,ty,pos,after,none⟩ ⟨lk' fl,S'⟩ K:=by
  obtain ⟨b,h1,rfl⟩:=hb
  exact stp_sind hT hu hx hi h0 h1 kk
end
/-! ### Families -/
def famL (g : Nat→Nm) : Nat→List AObj→SL
  | _,[]=>[]
  | i,o :: os=>(g i,o) :: famL g (i + 1) os
def ptrsG (g : Nat→Nm) (n : Nat) : List Cell:=(List.range n).map fun i=>.ptr (g i) 0

theorem ptrsG_get {g : Nat→Nm} {n j : Nat} (h : j < n) : (ptrsG g n)[j]? = some (.ptr (g j) 0):=by simp [ptrsG,h]
theorem ptrsG_len (g : Nat→Nm) (n : Nat) : (ptrsG g n).length = n:=by simp [ptrsG]
theorem ptrsG_mem {g : Nat→Nm} {n : Nat} {x : Cell} (h : x ∈ ptrsG g n) : ∃ j,j < n∧x = .ptr (g j) 0:=by
  obtain ⟨j,hj,rfl⟩:=List.mem_map.1 h
  exact ⟨j,by simpa using hj,rfl⟩
theorem ptrsG_map (φ : Nm→Nm) (g : Nat→Nm) (n : Nat) : (ptrsG g n).map (·.map φ) = ptrsG (fun i=>φ (g i)) n:=by simp [ptrsG,Cell.map]

theorem lkS_app : ∀ (a b : SL) (m : Nm),lkS (a ++ b) m = match lkS a m with | some o=>some o | none=>lkS b m
  | [],b,m=>rfl
  | (n,o) :: a,b,m=>by
    have ih:=lkS_app a b m
    simp only [List.cons_append,lkS]
    by_cases e : m = n
    · simp [e]
    · simp only [if_neg e,ih]
theorem lkS_famS {g : Nat→Nm} (hg : ∀ i j,g i = g j→i = j) : ∀ (os : List AObj) (s j : Nat),lkS (famL g s os) (g (s + j)) = os[j]?
  | [],s,j=>by simp [famL,lkS]
  | o :: os,s,j=>by
    simp only [famL,lkS]
    cases j with
    | zero=>simp
    | succ j =>
      rw [if_neg (fun e=>by have:=hg _ _ e;omega),show s + (j + 1) = (s + 1) + j by omega,lkS_famS hg os (s + 1) j]
      simp
theorem lkS_fam {g : Nat→Nm} (hg : ∀ i j,g i = g j→i = j) (os : List AObj) (j : Nat) : lkS (famL g 0 os) (g j) = os[j]?:=by
  have:=lkS_famS hg os 0 j
  rwa [Nat.zero_add] at this
theorem lkS_famN {g : Nat→Nm} {m : Nm} (h : ∀ i,m ≠ g i) : ∀ (os : List AObj) (s : Nat),lkS (famL g s os) m = none
  | [],s=>rfl
  | o :: os,s=>by simp only [famL,lkS,if_neg (h s)];exact lkS_famN h os (s + 1)
theorem famL_mem {g : Nat→Nm} {p : Nm × AObj} : ∀ {os : List AObj} {s : Nat},p ∈ famL g s os→∃ j,os[j]? = some p.2∧p.1 = g (s + j)
  | [],s,h=>by cases h
  | o :: os,s,h=>by
    rcases List.mem_cons.1 h with rfl | h
    · exact ⟨0,rfl,rfl⟩
    · obtain ⟨j,h1,h2⟩:=famL_mem h
      exact ⟨j + 1,by simpa using h1,by rw [h2];congr 1;omega⟩
theorem famL_in {g : Nat→Nm} : ∀ {os : List AObj} {s j : Nat} {o : AObj},os[j]? = some o→(g (s + j),o) ∈ famL g s os
  | [],s,j,o,h=>by simp at h
  | a :: os,s,0,o,h=>by simp only [List.getElem?_cons_zero,Option.some.injEq] at h;subst h;simp [famL]
  | a :: os,s,j + 1,o,h=>by
    have:=famL_in (g:=g) (s:=s + 1) (os:=os) (j:=j) (by simpa using h)
    rw [show s + 1 + j = s + (j + 1) by omega] at this
    exact List.mem_cons_of_mem _ this
theorem famL_fst {g : Nat→Nm} : ∀ (os : List AObj) (s : Nat),(famL g s os).map Prod.fst = (List.range os.length).map fun i=>g (s + i)
  | [],s=>rfl
  | o :: os,s=>by
    rw [famL,List.map_cons,famL_fst os (s + 1),List.length_cons,List.range_succ_eq_map,List.map_cons,List.map_map]
    simp only [Nat.add_zero,Function.comp_def,List.cons.injEq,true_and]
    exact List.map_congr_left fun i _=>by congr 1;omega
theorem famL_nodup {g : Nat→Nm} (hg : ∀ i j,g i = g j→i = j) (os : List AObj) : ((famL g 0 os).map Prod.fst).Nodup:=by
  rw [famL_fst]
  refine List.Nodup.map_of (fun i j h=>by have:=hg _ _ h;omega) List.nodup_range
where
  List.Nodup.map_of {α β : Type} {f : α→β} (hf : ∀ a b,f a = f b→a = b) {l : List α} (h : l.Nodup) : (l.map f).Nodup:=by
    induction l with
    | nil=>simp
    | cons a l ih =>
      simp only [List.nodup_cons,List.map_cons] at h ⊢
      exact ⟨fun hm=>by obtain ⟨b,hb,e⟩:=List.mem_map.1 hm;rw [hf _ _ e] at hb;exact h.1 hb,ih h.2⟩

theorem ov_congr {a b : SL} {S : Store} (h : ∀ m,lkS a m = lkS b m) : ov a S = ov b S:=by funext m;simp only [ov,h m]

/-! ### Names that are free -/
theorem freeO_cons {m : Nm} {o : AObj} {r : SL} {d : Nat} (h1 : freeO [(m,o)] d = true) (h2 : freeO r d = true) : freeO ((m,o) :: r) d = true:=by
  cases m with
  | loc a=>simp only [freeO] at h1 ⊢;split at h1 <;> first | (cases h1;done) | exact h2
  | out a=>exact h2
  | new=>exact h2
  | fam a i =>
    cases a with
    | loc a=>simp only [freeO] at h1 ⊢;split at h1 <;> first | (cases h1;done) | exact h2
    | _=>exact h2
theorem freeO_famG {g : Nat→Nm} {d : Nat} (h : ∀ i o,freeO [(g i,o)] d = true) : ∀ (os : List AObj) (s : Nat),freeO (famL g s os) d = true
  | [],_=>rfl
  | o :: os,s=>freeO_cons (h s o) (freeO_famG h os (s + 1))
theorem freeO_famD {q d : Nat} {os : List AObj} (h : Nat.beq q d = false) : freeO (famL (Nm.fam (.loc q)) 0 os) d = true:=freeO_famG (fun _ _=>by simp only [freeO,h]) os 0

theorem freeO_app {d : Nat} : ∀ {a b : SL},freeO a d = true→freeO b d = true→freeO (a ++ b) d = true
  | [],_,_,h=>h
  | (m,o) :: a,b,h1,h2=>by
    have h3 : freeO [(m,o)] d = true∧freeO a d = true:=by
      cases m with
      | loc q=>simp only [freeO] at h1 ⊢;split at h1 <;> first | (cases h1;done) | exact ⟨rfl,h1⟩
      | out q=>exact ⟨rfl,h1⟩
      | new=>exact ⟨rfl,h1⟩
      | fam q i =>
        cases q with
        | loc q=>simp only [freeO] at h1 ⊢;split at h1 <;> first | (cases h1;done) | exact ⟨rfl,h1⟩
        | _=>exact ⟨rfl,h1⟩
    exact freeO_cons h3.1 (freeO_app h3.2 h2)
/-! A name that is free, found by itself. -/
theorem fro0 {A : Prop} (t : A:=by first | exact rfl | exact freeO_famD rfl | exact freeO_famO | exact freeO_outM _) : A:=t
theorem fro1 {A : Prop} (t : A:=by first | exact freeO_famD rfl | exact freeO_famO | exact freeO_outM _ | exact freeO_cons rfl fro0 | exact freeO_app fro0 fro0 | exact rfl) : A:=t
theorem fro2 {A : Prop} (t : A:=by first | exact freeO_famD rfl | exact freeO_famO | exact freeO_outM _ | exact freeO_cons rfl fro1 | exact freeO_app fro1 fro1 | exact rfl) : A:=t
theorem fro3 {A : Prop} (t : A:=by first | exact freeO_famD rfl | exact freeO_famO | exact freeO_outM _ | exact freeO_cons rfl fro2 | exact freeO_app fro2 fro2 | exact rfl) : A:=t
theorem fro4 {A : Prop} (t : A:=by first | exact freeO_famD rfl | exact freeO_famO | exact freeO_outM _ | exact freeO_cons rfl fro3 | exact freeO_app fro3 fro3 | exact rfl) : A:=t
theorem fro5 {A : Prop} (t : A:=by first | exact freeO_famD rfl | exact freeO_famO | exact freeO_outM _ | exact freeO_cons rfl fro4 | exact freeO_app fro4 fro4 | exact rfl) : A:=t
theorem fro6 {A : Prop} (t : A:=by first | exact freeO_famD rfl | exact freeO_famO | exact freeO_outM _ | exact freeO_cons rfl fro5 | exact freeO_app fro5 fro5 | exact rfl) : A:=t
theorem fro7 {A : Prop} (t : A:=by first | exact freeO_famD rfl | exact freeO_famO | exact freeO_outM _ | exact freeO_cons rfl fro6 | exact freeO_app fro6 fro6 | exact rfl) : A:=t
theorem fro8 {A : Prop} (t : A:=by first | exact freeO_famD rfl | exact freeO_famO | exact freeO_outM _ | exact freeO_cons rfl fro7 | exact freeO_app fro7 fro7 | exact rfl) : A:=t
theorem fro9 {A : Prop} (t : A:=by first | exact freeO_famD rfl | exact freeO_famO | exact freeO_outM _ | exact freeO_cons rfl fro8 | exact freeO_app fro8 fro8 | exact rfl) : A:=t
theorem fro10 {A : Prop} (t : A:=by first | exact freeO_famD rfl | exact freeO_famO | exact freeO_outM _ | exact freeO_cons rfl fro9 | exact freeO_app fro9 fro9 | exact rfl) : A:=t
theorem fro11 {A : Prop} (t : A:=by first | exact freeO_famD rfl | exact freeO_famO | exact freeO_outM _ | exact freeO_cons rfl fro10 | exact freeO_app fro10 fro10 | exact rfl) : A:=t
theorem fro12 {A : Prop} (t : A:=by first | exact freeO_famD rfl | exact freeO_famO | exact freeO_outM _ | exact freeO_cons rfl fro11 | exact freeO_app fro11 fro11 | exact rfl) : A:=t
theorem fro13 {A : Prop} (t : A:=by first | exact freeO_famD rfl | exact freeO_famO | exact freeO_outM _ | exact freeO_cons rfl fro12 | exact freeO_app fro12 fro12 | exact rfl) : A:=t
theorem fro14 {A : Prop} (t : A:=by first | exact freeO_famD rfl | exact freeO_famO | exact freeO_outM _ | exact freeO_cons rfl fro13 | exact freeO_app fro13 fro13 | exact rfl) : A:=t
theorem fro15 {A : Prop} (t : A:=by first | exact freeO_famD rfl | exact freeO_famO | exact freeO_outM _ | exact freeO_cons rfl fro14 | exact freeO_app fro14 fro14 | exact rfl) : A:=t
theorem fro16 {A : Prop} (t : A:=by first | exact freeO_famD rfl | exact freeO_famO | exact freeO_outM _ | exact freeO_cons rfl fro15 | exact freeO_app fro15 fro15 | exact rfl) : A:=t
theorem fro17 {A : Prop} (t : A:=by first | exact freeO_famD rfl | exact freeO_famO | exact freeO_outM _ | exact freeO_cons rfl fro16 | exact freeO_app fro16 fro16 | exact rfl) : A:=t
theorem fro18 {A : Prop} (t : A:=by first | exact freeO_famD rfl | exact freeO_famO | exact freeO_outM _ | exact freeO_cons rfl fro17 | exact freeO_app fro17 fro17 | exact rfl) : A:=t
theorem fro19 {A : Prop} (t : A:=by first | exact freeO_famD rfl | exact freeO_famO | exact freeO_outM _ | exact freeO_cons rfl fro18 | exact freeO_app fro18 fro18 | exact rfl) : A:=t
theorem fro20 {A : Prop} (t : A:=by first | exact freeO_famD rfl | exact freeO_famO | exact freeO_outM _ | exact freeO_cons rfl fro19 | exact freeO_app fro19 fro19 | exact rfl) : A:=t
theorem fro21 {A : Prop} (t : A:=by first | exact freeO_famD rfl | exact freeO_famO | exact freeO_outM _ | exact freeO_cons rfl fro20 | exact freeO_app fro20 fro20 | exact rfl) : A:=t
theorem fro22 {A : Prop} (t : A:=by first | exact freeO_famD rfl | exact freeO_famO | exact freeO_outM _ | exact freeO_cons rfl fro21 | exact freeO_app fro21 fro21 | exact rfl) : A:=t
theorem fro23 {A : Prop} (t : A:=by first | exact freeO_famD rfl | exact freeO_famO | exact freeO_outM _ | exact freeO_cons rfl fro22 | exact freeO_app fro22 fro22 | exact rfl) : A:=t
theorem fro24 {A : Prop} (t : A:=by first | exact freeO_famD rfl | exact freeO_famO | exact freeO_outM _ | exact freeO_cons rfl fro23 | exact freeO_app fro23 fro23 | exact rfl) : A:=t
theorem fro {A : Prop} (t : A:=by first | exact rfl | exact fro24) : A:=t
end Go.Abs

/-
  Short names for the steps: what is found by reckoning is found by itself.
-/
namespace Go.Abs
open Go

section
variable {P : Program} {T : TT} {mu : FuncId→Bool} {N : Nat} {ops : Array Oper} {fl : FL} {sl : SL} {S S' : Store} {K : St→Prop} {Q : Exit→St→Prop} {st : St}
  {d : Nat} {dst : Option Nat} {ty : TypeId} {pos : String} {after : Array Edge}

theorem zr1 {x y : Code} (h : awp P mu N x (thenA (awp P mu N y Q) Q) st) : awp P mu N (.seq x y) Q st:=awp_seq h
theorem zr2 {id : Nat} {c : Code} (h : awp P mu N c (blockA id Q) st) : awp P mu N (.block id c) Q st:=awp_block h
theorem zr3 {id : Nat} (h : aw P mu N ops Q ops.toList st) : awp P mu N (.region id ops false) Q st:=awp_reg h
theorem zr19 {id : Nat} (h : aOps P mu ops ops.toList (Q .normal) st) (hl : lexOK mu ops = true:=by decide) : awp P mu N (.region id ops true) Q st:=awp_draw h (by rw [hl,Bool.or_true])
theorem zr5 (h : Q .normal st) : awp P mu N .skip Q st:=awp_skip h
theorem zr6 (h : Q .ret st) : awp P mu N .ret Q st:=awp_ret h
theorem zr7 {id : Nat} (h : Q (.exit id) st) : awp P mu N (.exit id) Q st:=awp_exit h
theorem zr8 {c : Operand} {x y : Code} (h : awp P mu N x Q ⟨lk' fl,S'⟩) (hc : opO fl c = some (bvl true):=by exact rfl) : awp P mu N (.cond c x y) Q ⟨lk' fl,S'⟩:=awp_ifT hc h
theorem zr9 {c : Operand} {x y : Code} (h : awp P mu N y Q ⟨lk' fl,S'⟩) (hc : opO fl c = some (bvl false):=by exact rfl) : awp P mu N (.cond c x y) Q ⟨lk' fl,S'⟩:=awp_ifF hc h
theorem zr10 (h : K st) : thenA K Q .normal st:=h
theorem zr11 (h : Q .ret st) : thenA K Q .ret st:=h
theorem zr12 {id : Nat} (h : Q (.exit id) st) : thenA K Q (.exit id) st:=h
theorem zr13 {id : Nat} (h : Q .normal st) : blockA id Q .normal st:=h
theorem zr14 {id : Nat} (h : Q .ret st) : blockA id Q .ret st:=h
theorem zr15 {id id' : Nat} (h : Q .normal st) (e : Nat.beq id' id = true:=by exact rfl) : blockA id Q (.exit id') st:=blockA_hit e h
theorem zr16 {id id' : Nat} (h : Q (.exit id') st) (e : Nat.beq id' id = false:=by exact rfl) : blockA id Q (.exit id') st:=blockA_miss e h
theorem zr17 (h : Q .normal st) : aw P mu N ops Q [] st:=aw_nil h
theorem zr18 {Q : St→Prop} (h : Q st) : aOps P mu ops [] Q st:=h
theorem zw1 {o : Oper} {l : List Oper} (h : Stp P mu ops o st (aw P mu N ops Q l)) : aw P mu N ops Q (o :: l) st:=aw_cons h
theorem zw2 {o : Oper} {rest : List Oper} {Q : St→Prop} (h : Stp P mu ops o st (aOps P mu ops rest Q)) : aOps P mu ops (o :: rest) Q st:=h
theorem zw3 {o : Oper} (h : Stp P mu ops o st K) : Stp P mu ops o st K:=h

theorem zg1 {op : Op} {j t : Nat} {want : Bool} (_ : TOk P T) (k : Stp P mu ops ⟨dst,op,ty,pos,after,none⟩ ⟨lk' fl,S'⟩ K) (hg : (ops[j]?).bind (·.dst) = some t:=by exact rfl) (hb : lkO fl t = some (bvl want):=by exact rfl) :
    Stp P mu ops ⟨dst,op,ty,pos,after,some (j,want)⟩ ⟨lk' fl,S'⟩ K:=stp_gT hg hb k
theorem zg2 {op : Op} {j t : Nat} {b want : Bool} (_ : TOk P T) (k : K ⟨lk' ((d,.c (.sc undef)) :: fl),S'⟩) (hg : (ops[j]?).bind (·.dst) = some t:=by exact rfl) (hb : lkO fl t = some (bvl b):=by exact rfl) (hne : b = !want:=by exact rfl) :
    Stp P mu ops ⟨some d,op,ty,pos,after,some (j,want)⟩ ⟨lk' fl,S'⟩ K:=stp_gF hg hb hne k
theorem zg3 {op : Op} {j t : Nat} {vs : Array Value} {want : Bool} (_ : TOk P T) (k : K ⟨lk' ((d,.c (.sc undef)) :: fl),S'⟩) (hg : (ops[j]?).bind (·.dst) = some t:=by exact rfl) (hb : lkO fl t = some (.c (.sc (.tuple vs))):=by exact rfl) :
    Stp P mu ops ⟨some d,op,ty,pos,after,some (j,want)⟩ ⟨lk' fl,S'⟩ K:=stp_gU hg hb k
theorem zg4 {t : TypeId} {x : Operand} {cs : List Leaf} {y : Cell} (hT : TOk P T) (k : K ⟨lk' ((d,.c y) :: fl),S'⟩) (hx : opO fl x = some (.c (.pim cs)):=by exact rfl) (ha : agT T t = some false:=by exact rfl) (hy : headL cs = some y:=by exact rfl) :
    Stp P mu ops ⟨some d,.load t x,ty,pos,after,none⟩ ⟨lk' fl,S'⟩ K:=stp_loadp hT hx ha hy k
theorem zg5 {t0 t1 : TypeId} {x y : Operand} {m n : Nat} (_ : TOk P T) (kk : K ⟨lk' ((d,ivl .u64 ((m / n : Nat) : Int)) :: fl),S'⟩) (hx : opO fl x = some (ivl .u64 (m : Int)):=by exact rfl) (hy : opO fl y = some (ivl .u64 (n : Int)):=by exact rfl)
    (h : m < 18446744073709551616∧n ≠ 0:=by first | exact True.intro | omega | (simp only [and_true,List.length_map,List.length_replicate,List.length_set,List.length_append,List.length_cons,List.length_nil,List.length_take,List.length_drop] at *;omega)) : Stp P mu ops ⟨some d,.binOp .quo t0 x y t1,ty,pos,after,none⟩ ⟨lk' fl,S'⟩ K:=stp_quoN hx hy h kk
theorem zg6 {t0 t1 : TypeId} {x y : Operand} {m n : Nat} (_ : TOk P T) (kk : K ⟨lk' ((d,ivl .u64 ((m % n : Nat) : Int)) :: fl),S'⟩) (hx : opO fl x = some (ivl .u64 (m : Int)):=by exact rfl) (hy : opO fl y = some (ivl .u64 (n : Int)):=by exact rfl)
    (h : n ≠ 0:=by first | exact True.intro | omega | (simp only [and_true,List.length_map,List.length_replicate,List.length_set,List.length_append,List.length_cons,List.length_nil,List.length_take,List.length_drop] at *;omega)) : Stp P mu ops ⟨some d,.binOp .rem t0 x y t1,ty,pos,after,none⟩ ⟨lk' fl,S'⟩ K:=stp_remN hx hy h kk
theorem zg7 {t0 t1 : TypeId} {x y : Operand} {a : Int} (_ : TOk P T) (kk : K ⟨lk' ((d,ivl .u64 (a % 4294967296)) :: fl),S'⟩) (hx : opO fl x = some (ivl .u64 a):=by exact rfl) (hy : opO fl y = some (ivl .u64 4294967295):=by exact rfl) (h0 : 0 ≤ a:=by first | exact True.intro | omega | (simp only [and_true,List.length_map,List.length_replicate,List.length_set,List.length_append,List.length_cons,List.length_nil,List.length_take,List.length_drop] at *;omega)) :
    Stp P mu ops ⟨some d,.binOp .and t0 x y t1,ty,pos,after,none⟩ ⟨lk' fl,S'⟩ K:=stp_mask hx hy h0 kk
theorem zg8 {t0 t1 : TypeId} {x y : Operand} {k' : IntKind} {a b c : Int} (_ : TOk P T) (kk : K ⟨lk' ((d,ivl .u64 (a / c)) :: fl),S'⟩) (hx : opO fl x = some (ivl .u64 a):=by exact rfl) (hy : opO fl y = some (ivl k' b):=by exact rfl) (hc : p2T b = some c:=by exact rfl) :
    Stp P mu ops ⟨some d,.binOp .shr t0 x y t1,ty,pos,after,none⟩ ⟨lk' fl,S'⟩ K:=stp_shrC hx hy hc kk
theorem zg9 {op : Op} {v : AVal} {C : Prop} (hT : TOk P T) (k : K ⟨lk' ((d,v) :: fl),S'⟩) (h : evP T true fl op = some (v,C):=by exact rfl) (hc : C:=by first | exact True.intro | omega | (simp only [and_true,List.length_map,List.length_replicate,List.length_set,List.length_append,List.length_cons,List.length_nil,List.length_take,List.length_drop] at *;omega)) :
    Stp P mu ops ⟨some d,op,ty,pos,after,none⟩ ⟨lk' fl,S'⟩ K:=stp_pure hT true h hc k
theorem zg10 {t : TypeId} {x : Operand} {m : Nm} {off : Nat} {o : AObj} {y : Cell} {C : Prop} (hT : TOk P T) (k : K ⟨lk' ((d,.c y) :: fl),ov sl S⟩) (hx : opO fl x = some (.c (.ptr m off)):=by exact rfl) (ha : agT T t = some false:=by exact rfl)
    (hm : lkS sl m = some o:=by exact lks) (hy : objO o off = some (y,C):=by exact rfl) (hc : C:=by first | exact True.intro | omega | (simp only [and_true,List.length_map,List.length_replicate,List.length_set,List.length_append,List.length_cons,List.length_nil,List.length_take,List.length_drop] at *;omega)) : Stp P mu ops ⟨some d,.load t x,ty,pos,after,none⟩ ⟨lk' fl,ov sl S⟩ K:=stp_load hT hx ha hm hy hc k
theorem zg11 {t : TypeId} {x y : Operand} {m : Nm} {off : Nat} {o o' : AObj} {v : AVal} {C : Prop} (hT : TOk P T) (k : K ⟨lk' fl,ov ((m,o') :: sl) S⟩) (hx : opO fl x = some (.c (.ptr m off)):=by exact rfl) (hy : opO fl y = some v:=by exact rfl)
    (hm : lkS sl m = some o:=by exact lks) (ho : putO T t o off v = some (o',C):=by exact rfl) (hc : C:=by first | exact True.intro | omega | (simp only [and_true,List.length_map,List.length_replicate,List.length_set,List.length_append,List.length_cons,List.length_nil,List.length_take,List.length_drop] at *;omega)) : Stp P mu ops ⟨none,.store t x y,ty,pos,after,none⟩ ⟨lk' fl,ov sl S⟩ K:=stp_store hT hx hy hm ho hc k
theorem zg12 {e : TypeId} {z : List Cell} (hT : TOk P T) (k : K ⟨lk' ((d,.c (.ptr (.loc d) 0)) :: fl),ov ((.loc d,.cells e z) :: sl) (pushS S)⟩) (hz : zerF T e = some z:=by exact rfl) (hf : freeO sl d = true:=by exact fro) :
    Stp P mu ops ⟨some d,.alloc e,ty,pos,after,none⟩ ⟨lk' fl,ov sl (pushS S)⟩ K:=stp_alloc hT hz hf k
theorem zg13 {t e : TypeId} {l c : Operand} {a b : Int} {ka kb k : IntKind} (hT : TOk P T) (kk : K ⟨lk' ((d,.c (.win (.loc d) 0 a.toNat b.toNat)) :: fl),ov ((.loc d,.ints e k (List.replicate b.toNat 0)) :: sl) (pushS S)⟩)
    (ht : undT T t = some (.slice e):=by exact rfl) (hc1 : celT T e = 1:=by exact rfl) (hb8 : bytT T e = some 8:=by exact rfl) (hz : zerF T e = some [.sc (.int k 0)]:=by exact rfl)
    (hl : opO fl l = some (ivl ka a):=by exact rfl) (hc : opO fl c = some (ivl kb b):=by exact rfl) (hf : freeO sl d = true:=by exact fro) (hb : 0 ≤ a∧a ≤ b∧b ≤ 35184372088832:=by first | exact True.intro | omega | (simp only [and_true,List.length_map,List.length_replicate,List.length_set,List.length_append,List.length_cons,List.length_nil,List.length_take,List.length_drop] at *;omega)) :
    Stp P mu ops ⟨some d,.makeSlice t l c,ty,pos,after,none⟩ ⟨lk' fl,ov sl (pushS S)⟩ K:=stp_make hT ht hc1 hb8 hz hl hc hf hb kk
theorem zg14 {t e : TypeId} {l c : Operand} {a b : Int} {ka kb k : IntKind} (hT : TOk P T) (kk : K ⟨lk' ((d,.c (.win (.loc d) 0 a.toNat b.toNat)) :: fl),ov ((.loc d,.ints e k (List.replicate b.toNat 0)) :: sl) (pushS S)⟩)
    (ht : undT T t = some (.slice e):=by exact rfl) (hc1 : celT T e = 1:=by exact rfl) (hb8 : bytT T e = some 1:=by exact rfl) (hz : zerF T e = some [.sc (.int k 0)]:=by exact rfl)
    (hl : opO fl l = some (ivl ka a):=by exact rfl) (hc : opO fl c = some (ivl kb b):=by exact rfl) (hf : freeO sl d = true:=by exact fro) (hb : 0 ≤ a∧a ≤ b∧b ≤ 281474976710656:=by first | exact True.intro | omega | (simp only [and_true,List.length_map,List.length_replicate,List.length_set,List.length_append,List.length_cons,List.length_nil,List.length_take,List.length_drop] at *;omega)) :
    Stp P mu ops ⟨some d,.makeSlice t l c,ty,pos,after,none⟩ ⟨lk' fl,ov sl (pushS S)⟩ K:=stp_make1 hT ht hc1 hb8 hz hl hc hf hb kk
theorem zg15 {t e : TypeId} {n : Nat} {ps : Array (Nat × Operand)} {k : IntKind} {L : List Int} (hT : TOk P T) (kk : K ⟨lk' ((d,.c (.win (.loc d) 0 n n)) :: fl),ov ((.loc d,.ints e k L) :: sl) (pushS S)⟩)
    (ht : undT T t = some (.slice e):=by exact rfl) (hc1 : celT T e = 1:=by exact rfl) (hz : zerF T e = some [.sc (.int k 0)]:=by exact rfl) (hp : intsPart fl ps.toList 0 = some (k,L):=by exact rfl)
    (hn : Nat.beq ps.toList.length n = true:=by exact rfl) (hsmall : Nat.ble n 1000 = true:=by exact rfl) (hf : freeO sl d = true:=by exact fro) :
    Stp P mu ops ⟨some d,.buildSlice t n ps,ty,pos,after,none⟩ ⟨lk' fl,ov sl (pushS S)⟩ K:=stp_ints hT ht hc1 hz hp hn hsmall hf kk

theorem s_cmp {op : BinOp} {t0 T' : TypeId} {x y : Operand} {k k' : IntKind} {a b : Int} {p : Prop} (h1 : p→K ⟨lk' ((d,bvl true) :: fl),S'⟩) (h2 : ¬ p→K ⟨lk' ((d,bvl false) :: fl),S'⟩)
    (hx : opO fl x = some (ivl k a):=by exact rfl) (hy : opO fl y = some (ivl k' b):=by exact rfl) (hk : kEq k k' = true:=by exact rfl) (hp : cmpP op a b = some p:=by exact rfl) :
    Stp P mu ops ⟨some d,.binOp op t0 x y T',ty,pos,after,none⟩ ⟨lk' fl,S'⟩ K:=stp_cmp hx hy hk hp h1 h2
theorem s_call {f : FuncId} {as : Array Operand} {tys : Array TypeId} {xs args : List AVal} {res : AVal} (hc : AFun P f args res) (k : K ⟨lk' ((d,res) :: fl),ov sl (pushS S)⟩) (hx : opsO fl as.toList = some xs:=by exact rfl)
    (hle : ALes xs args:=by repeat (first | exact trivial | refine ⟨ALe.refl _,?_⟩ | refine ⟨.inr (.inl ⟨_,rfl,rfl⟩),?_⟩)) (hf : freeO sl d = true:=by exact fro) :
    Stp P mu ops ⟨some d,.call ⟨.value (.func f),as,tys⟩,ty,pos,after,none⟩ ⟨lk' fl,ov sl (pushS S)⟩ K:=stp_callF hc hx hle hf k

theorem s_appR {s x : Operand} {tys : Array TypeId} {t e : TypeId} {as : Array Operand} {m : Nm} {k : IntKind} {L Y : List Int} {len cm : Nat} {xv : AVal} (hT : TOk P T) (hY : srcE (ov sl S) xv k Y)
    (hl : len + Y.length ≤ cm∧len + Y.length ≤ L.length) (kk : K ⟨lk' ((d,.c (.win m 0 (len + Y.length) cm)) :: killL m fl),ov ((m,.ints e k (L.take len ++ Y ++ L.drop (len + Y.length))) :: sl) S⟩)
    (ha : as.toList = [s,x]:=by exact rfl) (ht : tys.toList = [t,t]:=by exact rfl) (hu : undT T t = some (.slice e):=by exact rfl) (hc1 : celT T e = 1:=by exact rfl)
    (hz : zerT T e = some (.int k 0):=by exact rfl) (hs : opO fl s = some (.c (.win m 0 len cm)):=by exact rfl) (hx : opO fl x = some xv:=by exact rfl) (hm : lkS sl m = some (.ints e k L):=by exact lks) :
    Stp P mu ops ⟨some d,.call ⟨.builtin .append,as,tys⟩,ty,pos,after,none⟩ ⟨lk' fl,ov sl S⟩ K:=stp_appR hT ha ht hu hc1 hz hs hx hm hY hl kk
end
end Go.Abs

/-
  Functions that write what they are handed; functions that hand out new blocks.
-/
namespace Go.Abs
open Go

structure AProc (P : Program) (f : FuncId) (args : List AVal) (pre post : SL) (res : AVal) : Prop where
  calls : ∀ Φ,(∀ p ∈ pre,Φ p.1 = some p.2)→ACalls P f args Φ (fun _=>res) (fun _=>post)
  nmR : ∀ Φ,(∀ p ∈ pre,Φ p.1 = some p.2)→∀ q,res.at q→Rch Φ args q
  nmP : ∀ Φ,(∀ p ∈ pre,Φ p.1 = some p.2)→∀ p ∈ post,Rch Φ args p.1
  postN : ∀ Φ,(∀ p ∈ pre,Φ p.1 = some p.2)→∀ p ∈ post,∀ x ∈ p.2.cls,∀ m,x.at m→Rch Φ args m

def outO (U : SL) : SL:=U.map fun p=>(.out p.1,p.2)
theorem lkS_outO : ∀ (U : SL) (q : Nm),lkS (outO U) (.out q) = lkS U q
  | [],q=>rfl
  | (m,o) :: U,q=>by
    have ih:=lkS_outO U q
    simp only [outO,List.map_cons,lkS,Nm.out.injEq] at ih ⊢
    rw [ih]
theorem lkS_outO_ne : ∀ (U : SL) (q : Nm),(∀ m,q ≠ .out m)→lkS (outO U) q = none
  | [],q,_=>rfl
  | (m,o) :: U,q,h=>by
    have ih:=lkS_outO_ne U q h
    simp only [outO,List.map_cons,lkS] at ih ⊢
    rw [if_neg (h m),ih]
theorem lkS_none : ∀ {U : SL} {q : Nm},(∀ p ∈ U,p.1 ≠ q)→lkS U q = none
  | [],q,_=>rfl
  | (m,o) :: U,q,h=>by
    simp only [lkS]
    rw [if_neg (fun e=>h (m,o) (by simp) e.symm)]
    exact lkS_none fun p hp=>h p (by simp [hp])
theorem updL_lk : ∀ (U : SL) (S : Store) (q : Nm),(U.map Prod.fst).Nodup→updL S U q = match lkS U q with | some o=>some o | none=>S q
  | [],S,q,_=>rfl
  | (m,o) :: U,S,q,h=>by
    simp only [List.map_cons,List.nodup_cons] at h
    simp only [updL]
    rw [updL_lk U _ q h.2]
    simp only [lkS]
    by_cases e : q = m
    · subst e
      rw [if_pos rfl]
      have : lkS U q = none:=lkS_none fun p hp e=>h.1 (by rw [← e];exact List.mem_map.2 ⟨p,hp,rfl⟩)
      rw [this];simp [upd]
    · rw [if_neg e]
      cases lkS U q <;> simp [upd,e]
theorem lkS_mem : ∀ {U : SL} {q : Nm} {o : AObj},lkS U q = some o→(q,o) ∈ U
  | (m,o') :: U,q,o,h=>by
    simp only [lkS] at h
    split at h
    · rename_i e;subst e;obtain rfl:=Option.some.inj h;simp
    · exact List.mem_cons_of_mem _ (lkS_mem h)

section
variable {P : Program} {mu : FuncId→Bool}

def EndP (P : Program) (fn : Func) (S : Store) (post : SL) (res : AVal) (e : Exit) (st : St) : Prop :=
  (e = .normal ∨ e = .ret)∧∃ T fl vs,TOk P T∧Weak st ⟨lk' fl,ov (outO post) (pushS S)⟩∧resL T fl fn.results.toList = some vs∧flatL vs = true∧oneR vs = res.map .out

theorem aproc {f : FuncId} {fn : Func} {c : Code} {args : List AVal} {pre post : SL} {res : AVal} (hf : P.funcs[f]? = some fn) (hb : fn.body = some c) (hname : (fn.name == "runtime.NumGoroutine") = false)
    (hm : P.follows .mixedOrders = true) (hok : okC fn.ntmps mu c = true) (hl : args.length ≤ fn.ntmps) (hA : ∀ q x,x ∈ args→x.at q→∃ o,(q,o) ∈ pre) (hR : ∀ q,res.at q→∃ x ∈ args,x.at q)
    (hP : ∀ p ∈ post,∃ x ∈ args,x.at p.1) (hpre0 : ∀ p ∈ pre,p.2.nm0∧∃ x ∈ args,x.at p.1) (hpost0 : ∀ p ∈ post,p.2.nm0) (hnd : (post.map Prod.fst).Nodup)
    (h : ∀ S,(∀ n b,S n = some b→b.cl S)→awp P mu fn.ntmps c (EndP P fn S post res) ⟨lk' (entryL 0 (args.map (·.map .out))),ov (outO pre) (pushS S)⟩) : AProc P f args pre post res:=by
  refine ⟨fun Φ hΦ=>acalls hf hb hname hm hok hl fun n S hag hn hnf hcl=>?_,fun Φ _ q hq=>.of (hR q hq),fun Φ _ p hp=>.of (hP p hp),fun Φ _ p hp x hx m hm=>absurd hm (hpost0 p hp x hx m)⟩
  have hS : ∀ p ∈ pre,S p.1 = some p.2:=fun p hp=>by
    obtain ⟨x,hx,hq⟩:=(hpre0 p hp).2
    rw [hag p.1 (.base hx hq)];exact hΦ p hp
  have e0 : ov (outO pre) (pushS S) = ov [] (pushS S):=by
    rw [show ov [] (pushS S) = pushS S from rfl]
    refine ov_self fun m o hm=>?_
    have : ∃ q,m = .out q:=by
      cases m with
      | out q=>exact ⟨q,rfl⟩
      | _=>rw [lkS_outO_ne _ _ (fun m e=>by cases e)] at hm;cases hm
    obtain ⟨q,rfl⟩:=this
    rw [lkS_outO] at hm
    have:=hS _ (lkS_mem hm)
    simp only at this
    simp only [pushS,this,Option.map_some,AObj.map_nm0 (hpre0 _ (lkS_mem hm)).1]
  refine awp_weak _ (entry_weak args S) ?_
  have hh:=h S hcl
  rw [e0] at hh
  refine awp_post (awp_mono hh ?_)
  have hne:=old_ne hn hnf
  have hnames : ∀ q,(∃ x ∈ args,x.at q)→S q ≠ none:=fun q ⟨x,hx,hq⟩=>by
    obtain ⟨o,ho⟩:=hA q x hx hq
    rw [hS _ ho];simp
  have hpostS : ∀ q o,lkS post q = some o→S q ≠ none:=fun q o ho=>hnames q (hP _ (lkS_mem ho))
  rintro e st ⟨he,T,fl,vs,hT,h1,h2,h3,h4⟩
  refine ⟨_,h1,he,vs,fun _=>.new,resL_spec hT h2,flatL_spec h3,fun _=>rfl,?_,?_,?_⟩
  · have hdom : ∀ m,updL S post m ≠ none→S m ≠ none:=fun m hm=>by
      rw [updL_lk _ _ _ hnd] at hm
      cases e : lkS post m with
      | none=>rw [e] at hm;exact hm
      | some o=>exact hpostS m o e
    refine ⟨fun m m' q1 q2 e=>?_,fun m o hm=>?_,fun m o hm=>?_⟩
    · rw [if_neg (hne m (hdom m q1)),if_neg (hne m' (hdom m' q2))] at e;injection e
    · have hm0:=hdom m (by rw [hm];simp)
      rw [if_neg (hne m hm0)]
      rw [updL_lk _ _ _ hnd] at hm
      simp only [ov,lkS_outO]
      cases e : lkS post m with
      | none =>
        rw [e] at hm
        simp only at hm ⊢
        rw [map_old hne (hcl m o hm)]
        simp [pushS,hm]
      | some o' =>
        rw [e] at hm
        obtain rfl:=Option.some.inj hm
        rw [AObj.map_nm0 (hpost0 _ (lkS_mem e))]
    · rw [updL_lk _ _ _ hnd] at hm
      have mono : ∀ q,S q ≠ none→updL S post q ≠ none:=fun q hq=>updL_dom _ _ _ hq
      cases e : lkS post m with
      | none =>
        rw [e] at hm
        exact cl_mono mono (hcl m o hm)
      | some o' =>
        rw [e] at hm
        obtain rfl:=Option.some.inj hm
        exact AObj.cl_nm0 (hpost0 _ (lkS_mem e))
  · exact fun q hq=>updL_dom _ _ _ (hnames q (hR q hq))
  · rw [h4]
    exact AVal.map_congr fun q hq=>by rw [if_neg (hne q (hnames q (hR q hq)))]

variable {T : TT} {ops : Array Oper} {fl : FL} {sl : SL} {S : Store} {K : St→Prop} {d : Nat} {ty : TypeId} {pos : String} {after : Array Edge}

theorem AProc.side {f : FuncId} {args : List AVal} {pre post : SL} {res : AVal} {dd : Option Nat} {Φ : Store} (hΦ : ∀ p ∈ pre,Φ p.1 = some p.2) (hc : AProc P f args pre post res) (hmu : mu f = true) : ASide mu f dd Φ args res post :=
  ⟨fun p hp=>.inr (.inr ⟨hmu,hc.nmP Φ hΦ p hp⟩),.inr (.inl hmu),fun m hm=>.inr (hc.nmR Φ hΦ m hm),fun p hp x hx m hm=>.inr (hc.postN Φ hΦ p hp x hx m hm)⟩

theorem s_proc {g : Operand} {f : FuncId} {caps : List Cell} {as : Array Operand} {tys : Array TypeId} {xs args : List AVal} {pre post : SL} {res : AVal} (hc : AProc P f args pre post res) (k : K ⟨lk' ((d,res) :: fl),ov (addL sl post) (pushS S)⟩)
    (hpre : ∀ p ∈ pre,lkS sl p.1 = some p.2) (hmu : mu f = true:=by exact rfl) (hg : opO fl g = some (.fn f caps):=by exact rfl) (hx : opsO fl as.toList = some xs:=by exact rfl)
    (hle : ALes (xs ++ caps.map .c) args:=by repeat (first | exact trivial | refine ⟨ALe.refl _,?_⟩ | refine ⟨.inr (.inl ⟨_,rfl,rfl⟩),?_⟩)) (hf : freeO sl d = true:=by exact fro) :
    Stp P mu ops ⟨some d,.call ⟨.value g,as,tys⟩,ty,pos,after,none⟩ ⟨lk' fl,ov sl (pushS S)⟩ K :=
  stp_call (hc.calls (ov sl (pushS S)) fun p hp=>ov_of (hpre p hp)) hg hx hle hf (fun _ _=>rfl) (hc.side (fun p hp=>ov_of (hpre p hp)) hmu) k
end
end Go.Abs

/-
  Functions that hand out a new block; rows of cells that are told as they stand.
-/
namespace Go.Abs
open Go

structure ANew (P : Program) (f : FuncId) (args : List AVal) (ty : TypeId) (ls : List Leaf) : Prop where
  calls : ∀ Φ,ACalls P f args Φ (fun n=>.c (.ptr n 0)) (fun n=>[(n,.cells ty (ls.map Leaf.cell))])
  args0 : ∀ x ∈ args,nm0 x

theorem Leaf.cell_nm (l : Leaf) (m : Nm) : ¬ l.cell.at m:=by cases l <;> exact fun h=>h
theorem leaves_nm0 {ls : List Leaf} {x : Cell} (h : x ∈ ls.map Leaf.cell) (m : Nm) : ¬ x.at m:=by
  obtain ⟨l,-,rfl⟩:=List.mem_map.1 h
  exact l.cell_nm m

section
variable {P : Program} {mu : FuncId→Bool}

theorem ANew.pim {f : FuncId} {args : List AVal} {ty : TypeId} {ls : List Leaf} (h : ANew P f args ty ls) : AFun P f args (.c (.pim ls)) where
  res0:=fun m hm=>hm.elim
  args0:=h.args0
  calls Φ n S hag hn hnf w ρ vs he hgl hvs:=by
    rcases h.calls Φ n S hag hn hnf w ρ vs he hgl hvs with ⟨hrun,hc⟩ | ⟨v,-,-,hu⟩
    · refine .inl ⟨hrun,hc.mono ?_⟩
      rintro e w' ⟨ρ',v,e1,e2,e3,e4⟩
      have hS' : ∀ m o,S m = some o→updL S [(n,.cells ty (ls.map Leaf.cell))] m = some o:=fun m o hm=>by
        have : m ≠ n:=fun q=>by rw [q,hn] at hm;cases hm
        simp only [updL,upd_ne _ _ this,hm]
      have hS2 : ∀ m o,m ≠ n→updL S [(n,.cells ty (ls.map Leaf.cell))] m = some o→S m = some o:=fun m o q hm=>by
        simp only [updL,upd_ne _ _ q] at hm;exact hm
      have hne : ∀ {m o},S m = some o→m ≠ n:=fun hm q=>by rw [q,hn] at hm;cases hm
      have hO : Sub (updL S [(n,.cells ty (ls.map Leaf.cell))]) S:=fun m o hm=>.inl ⟨o,hS' m o hm,by
        exact .keep fun x hx q hq=>AObj.cl_cls.1 (he.cl m _ hm) x hx q hq⟩
      refine ⟨ρ',v,e1,⟨fun m m' o o' h1 h2 r1 r2 e=>e2.inj m m' o o' (hS' _ _ h1) (hS' _ _ h2) r1 r2 e,fun m o hm=>?_⟩,⟨e3.os,e3.tape,e3.output,e3.size,e3.old,fun m o hm hr=>e3.nms m o (hS' _ _ hm) hr,fun m o hm ha=>?_,e3.szs,fun m ty' k L hX hm=>?_,fun _ h=>h.elim⟩,?_⟩
      · have ho:=e2.obj m o (hS' m o hm)
        cases o with
        | ints ty k L=>exact ho
        | fix x=>exact ho
        | row ty cs =>
          obtain ⟨vs,q1,q2⟩:=ho
          refine ⟨vs,q1,fun i y hy=>?_⟩
          obtain ⟨u,p1,p2,p3⟩:=q2 i y hy
          exact ⟨u,p1,p2,FrzC0.held hO e2 (.keep fun q hq=>he.cl m _ hm y (List.mem_of_getElem? hy) q hq) p3⟩
        | acc ty sz L =>
          rcases ho with ho | ⟨vs,q1,q0,q2⟩
          · exact .inl ho
          · refine .inr ⟨vs,q1,q0,fun i c j y hi hj=>?_⟩
            obtain ⟨u,p1,p2,p3⟩:=q2 i c j y hi hj
            exact ⟨u,p1,p2,FrzC0.held hO e2 (.keep fun q hq=>he.cl m _ hm c (List.mem_of_getElem? hi) y (List.mem_of_getElem? hj) q hq) p3⟩
        | cells ty cs =>
          obtain ⟨vs,q1,q0,q2⟩:=ho
          refine ⟨vs,q1,q0,fun i y hy=>?_⟩
          obtain ⟨u,p1,p2,p3⟩:=q2 i y hy
          exact ⟨u,p1,p2,FrzC0.held hO e2 (.keep fun q hq=>he.cl m _ hm y (List.mem_of_getElem? hy) q hq) p3⟩
      · obtain ⟨o',a1,a2,a3⟩:=e3.kp m o hm ha
        exact ⟨o',hS2 m o' (hne hm) a1,a2,a3⟩
      · obtain ⟨a1,a2⟩:=e3.acc m ty' k L hX hm
        exact ⟨hS2 m _ (hne hm) a1,a2⟩
      · refine FrzV.held hO e2 (.c (.base (.ptr (ty:=ty) (cs:=ls.map Leaf.cell) (fun j=>((ls[j]?).map Leaf.cell).getD .junk) (.inl (by simp [updL,upd])) hn (fun j l hj=>by simp [hj]) fun j l hj=>by
          simp only [hj,Option.map_some,Option.getD_some]
          exact .keep fun q hq=>absurd hq (l.cell_nm q)))) e4
    · cases hu

def EndN (P : Program) (fn : Func) (S : Store) (ty : TypeId) (ls : List Leaf) (e : Exit) (st : St) : Prop :=
  (e = .normal ∨ e = .ret)∧∃ T fl l,TOk P T∧l.isOut = false∧Weak st ⟨lk' fl,ov [(l,.cells ty (ls.map Leaf.cell))] (pushS S)⟩∧resL T fl fn.results.toList = some [.c (.ptr l 0)]

theorem back_new {S : Store} {n l : Nm} {ob : AObj} (hlo : l.isOut = false) (hob : ob.nm0) (hn : S n = none) (hnf : ∀ i,S (.fam n i) = none) (hcl : ∀ n b,S n = some b→b.cl S) :
    Back (fun m=>if m.isNew n = true then l else .out m) (ov [(l,ob)] (pushS S)) (updL S [(n,ob)]):=by
  have hne:=old_ne hn hnf
  have hnew : ∀ m,m ≠ n→updL S [(n,ob)] m ≠ none→S m ≠ none:=fun m e h=>by simpa [updL,upd,e] using h
  refine ⟨fun m m' q1 q2 e=>?_,fun m o hm=>?_,fun m o hm=>?_⟩
  · by_cases a : m = n <;> by_cases b : m' = n
    · rw [a,b]
    · subst a
      rw [if_pos (Nm.isNew_self m),if_neg (hne m' (hnew m' b q2))] at e
      rw [e] at hlo;cases hlo
    · subst b
      rw [if_pos (Nm.isNew_self m'),if_neg (hne m (hnew m a q1))] at e
      rw [← e] at hlo;cases hlo
    · rw [if_neg (hne m (hnew m a q1)),if_neg (hne m' (hnew m' b q2))] at e;injection e
  · by_cases a : m = n
    · subst a
      simp only [updL,upd_same] at hm
      obtain rfl:=Option.some.inj hm
      rw [if_pos (Nm.isNew_self m),AObj.map_nm0 hob]
      simp [ov,lkS]
    · simp only [updL,upd_ne _ _ a] at hm
      have hq:=hne m (by rw [hm];simp)
      rw [if_neg hq,map_old hne (hcl m o hm)]
      have : ¬ Nm.out m = l:=fun q=>by subst q;cases hlo
      show ov _ (pushS S) _ = _
      simp only [ov,lkS,if_neg this,pushS,hm]
      rfl
  · by_cases a : m = n
    · subst a
      simp only [updL,upd_same] at hm
      obtain rfl:=Option.some.inj hm
      exact AObj.cl_nm0 hob
    · simp only [updL,upd_ne _ _ a] at hm
      exact cl_mono (fun q hq=>upd_dom hq) (hcl m o hm)

theorem anew {f : FuncId} {fn : Func} {c : Code} {args : List AVal} {ty : TypeId} {ls : List Leaf} (hf : P.funcs[f]? = some fn) (hb : fn.body = some c) (hname : (fn.name == "runtime.NumGoroutine") = false)
    (hm : P.follows .mixedOrders = true) (hok : okC fn.ntmps mu c = true) (hl : args.length ≤ fn.ntmps) (ha : ∀ x ∈ args,nm0 x)
    (h : ∀ S,(∀ n b,S n = some b→b.cl S)→awp P mu fn.ntmps c (EndN P fn S ty ls) ⟨lk' (entryL 0 args),ov [] (pushS S)⟩) : ANew P f args ty ls:=by
  refine ⟨fun Φ=>acalls hf hb hname hm hok hl fun n S _ hn hnf hcl=>?_,ha⟩
  refine awp_weak _ (entry_weak args S) ?_
  have e1 : args.map (·.map .out) = args:=by
    conv=>rhs;rw [← List.map_id args]
    exact List.map_congr_left fun x hx=>AVal.map_nm0 (ha x hx)
  rw [e1]
  refine awp_post (awp_mono (h S hcl) ?_)
  rintro e st ⟨he,T,fl,l,hT,hlo,h1,h2⟩
  exact ⟨_,h1,he,_,fun _=>l,resL_spec hT h2,fun x hx=>.inl (by simp),fun _=>hlo,back_new hlo (fun x hx q=>leaves_nm0 hx q) hn hnf hcl,fun m hm=>by have : n = m:=hm;subst this;simp [updL,upd],by simp [oneR,AVal.map,AVal.map1,Cell.map,Nm.isNew_self]⟩

theorem endN {T : TT} (hT : TOk P T) {fn : Func} {S : Store} {ty : TypeId} {ls : List Leaf} {e : Exit} {fl fl' : FL} {sl : SL} {l : Nm} (he : e = .normal ∨ e = .ret) (hS : ∀ n b,S n = some b→b.cl S) (hl : l.isOut = false) (ho : outsL sl = [])
    (hs : FrzS (ov sl (pushS S)) (ov [(l,.cells ty (ls.map Leaf.cell))] (pushS S)) [(l,.cells ty (ls.map Leaf.cell))]) (hf : FrzF (ov sl (pushS S)) (ov [(l,.cells ty (ls.map Leaf.cell))] (pushS S)) fl fl')
    (hr : resL T fl' fn.results.toList = some [.c (.ptr l 0)]) : EndN P fn S ty ls e ⟨lk' fl,ov sl (pushS S)⟩ :=
  ⟨he,T,fl',l,hT,hl,frz hS (by rw [ho];cases l <;> first | rfl | cases hl) hs hf,hr⟩

variable {T : TT} {ops : Array Oper} {fl : FL} {sl : SL} {S : Store} {K : St→Prop} {d : Nat} {ty : TypeId} {pos : String} {after : Array Edge}

theorem s_new {f : FuncId} {as : Array Operand} {tys : Array TypeId} {xs args : List AVal} {tb : TypeId} {ls : List Leaf} (hc : ANew P f args tb ls) (k : K ⟨lk' ((d,.c (.ptr (.loc d) 0)) :: fl),ov ((.loc d,.cells tb (ls.map Leaf.cell)) :: sl) (pushS S)⟩) (hx : opsO fl as.toList = some xs:=by exact rfl)
    (hle : ALes xs args:=by repeat (first | exact trivial | refine ⟨ALe.refl _,?_⟩ | refine ⟨.inr (.inl ⟨_,rfl,rfl⟩),?_⟩)) (hf : freeO sl d = true:=by exact fro) :
    Stp P mu ops ⟨some d,.call ⟨.value (.func f),as,tys⟩,ty,pos,after,none⟩ ⟨lk' fl,ov sl (pushS S)⟩ K :=
  stp_call (hc.calls (ov sl (pushS S))) rfl hx (by simpa using hle) hf (fun _ _=>rfl)
    ⟨fun p hp=>.inl (by simp at hp;rw [hp];rfl),.inr (.inr ⟨d,_,rfl,rfl⟩),fun m hm=>.inl ⟨.cells tb (ls.map Leaf.cell),by rw [← show Nm.loc d = m from hm];simp⟩,
      fun p hp x hx m hm=>by
        simp at hp;subst hp
        exact absurd hm (leaves_nm0 hx m)⟩ k
end

/-! ### Rows of cells -/
def FrzCs (A B : Store) : List Cell→List Cell→Prop
  | [],[]=>True
  | x :: xs,y :: ys=>FrzC A B x y∧FrzCs A B xs ys
  | _ :: _,[]=>False
  | [],_ :: _=>False
theorem FrzCs.len {A B : Store} : ∀ {xs ys : List Cell},FrzCs A B xs ys→xs.length = ys.length
  | [],[],_=>rfl
  | _ :: xs,_ :: ys,⟨_,h⟩=>by rw [List.length_cons,List.length_cons,FrzCs.len h]
  | _ :: _,[],h=>h.elim
  | [],_ :: _,h=>h.elim
theorem FrzCs.at {A B : Store} : ∀ {xs ys : List Cell},FrzCs A B xs ys→∀ (i : Nat) (y : Cell),ys[i]? = some y→∃ x,xs[i]? = some x∧FrzC A B x y
  | x :: xs,y :: ys,⟨h1,h2⟩,i,z,hi=>by
    match i with
    | 0=>simp only [List.getElem?_cons_zero,Option.some.injEq] at hi;subst hi;exact ⟨x,rfl,h1⟩
    | i + 1=>exact FrzCs.at h2 i z (by simpa using hi)
  | _,[],_,i,z,hi=>by simp at hi
def FrzLs (A B : Store) : List Cell→List Leaf→Prop
  | _,[]=>True
  | x :: xs,y :: ys=>FrzC0 A B x y.cell∧FrzLs A B xs ys
  | [],_ :: _=>False
theorem FrzLs.at {A B : Store} : ∀ {xs : List Cell} {ys : List Leaf},FrzLs A B xs ys→∀ (i : Nat) (y : Leaf),ys[i]? = some y→∃ x,xs[i]? = some x∧FrzC0 A B x y.cell
  | x :: xs,y :: ys,⟨h1,h2⟩,i,z,hi=>by
    match i with
    | 0=>simp only [List.getElem?_cons_zero,Option.some.injEq] at hi;subst hi;exact ⟨x,rfl,h1⟩
    | i + 1=>exact FrzLs.at h2 i z (by simpa using hi)
  | _,[],_,i,z,hi=>by simp at hi

section
variable {A B : Store}
theorem kP {m : Nm} {off : Nat} {ty : TypeId} {cs : List Cell} {ls : List Leaf} (hm : A m = some (.cells ty cs)) (hb : B m = none) (h : FrzLs A B (cs.drop off) ls) : FrzV A B (.c (.ptr m off)) (.c (.pim ls)):=by
  refine .c (.base (.ptr (fun j=>(cs[off + j]?).getD .junk) (.inl hm) hb (fun j l hj=>?_) fun j l hj=>?_))
  · obtain ⟨x,h1,h2⟩:=h.at j l hj
    rw [List.getElem?_drop] at h1
    rw [h1];rfl
  · obtain ⟨x,h1,h2⟩:=h.at j l hj
    rw [List.getElem?_drop] at h1
    simp only [h1,Option.getD_some]
    exact h2
theorem kPtr {m : Nm} {off : Nat} (hb : B m ≠ none) : FrzV A B (.c (.ptr m off)) (.c (.ptr m off)):=.c (.base (.keep fun q h=>by rw [← show m = q from h];exact hb))
theorem kPim {cs cs' : List Leaf} (h : cs = cs') : FrzV A B (.c (.pim cs)) (.c (.pim cs')):=by subst h;exact .c (.base (.keep fun q h=>h.elim))
theorem lS {v v' : Value} (h : v = v') : FrzC0 A B (.sc v) (.sc v'):=by subst h;exact .keep fun q h=>h.elim
theorem lI {k : IntKind} {L L' : List Int} (h : L = L') : FrzC0 A B (.ints k L) (.ints k L'):=by subst h;exact .keep fun q h=>h.elim
theorem lJ {k : IntKind} : FrzC0 A B (.sc (.slice none 0 0)) (.ints k []):=.nilI
theorem kB {b b' : Bool} (h : b = b') : FrzV A B (bvl b) (bvl b'):=by subst h;exact kS
theorem kFn {f : FuncId} {xs : List Cell} (h : ∀ x ∈ xs,∀ m,x.at m→B m ≠ none) : FrzV A B (.fn f xs) (.fn f xs):=.fn rfl fun i x y hx hy=>by rw [hx] at hy;obtain rfl:=Option.some.inj hy;exact .base (.keep (h x (List.mem_of_getElem? hx)))
theorem kAcc {m : Nm} {n : Nat} {ty : TypeId} {k : IntKind} {L L' : List Int} (hm : A m = some (.accI ty k L)) (hb : B m = none) (e : L = L') : FrzV A B (.accv m n) (.c (.ints k L')):=by subst e;exact .accI hm hb
theorem kAccK {m : Nm} {n n' : Nat} {ty : TypeId} {sz : Nat} {L L' : List (List Cell)} (h1 : A m = some (.acc ty sz L)) (h2 : B m = some (.acc ty sz L')) (hl : L'.length = L.length) (hn : n' = L.length) : FrzV A B (.accv m n) (.accv m n'):=.accK h1 h2 hl hn
end
end Go.Abs

/-
  Structs put together, closures made, slices held against nil.
-/
namespace Go.Abs
open Go

def placesT (T : TT) : List Field→Option (List (Nat × Nat))
  | []=>some []
  | f :: fs=>match celT T f.type,placesT T fs with
    | n + 1,some r=>some ((f.offset,n + 1) :: r)
    | _,_=>none

theorem under_info {P : Program} {t : TypeId} {d : TypeDesc} (h : P.underlying t = some d) : P.info? t ≠ none:=by
  intro e;simp [Program.underlying,e] at h

theorem celT_info {P : Program} {T : TT} (hT : TOk P T) {t n : Nat} (h : celT T t = n + 1) : P.info? t ≠ none:=by
  unfold celT at h
  split at h
  · rename_i i hi;exact under_info (hT.at hi).1
  · cases h

theorem placesT_spec {P : Program} {T : TT} (hT : TOk P T) : ∀ {fs : List Field} {pl : List (Nat × Nat)},placesT T fs = some pl→fs.map (fun f=>(f.offset,P.cellsOf f.type)) = pl∧∀ f ∈ fs,P.info? f.type ≠ none
  | [],pl,h=>by simp only [placesT,Option.some.injEq] at h;subst h;simp
  | f :: fs,pl,h=>by
    simp only [placesT] at h
    split at h
    · rename_i n r h1 h2
      obtain ⟨h3,h4⟩:=placesT_spec hT h2
      simp only [Option.some.injEq] at h
      subst h
      refine ⟨by simp [h3,hT.cel h1 (by simp)],fun g hg=>?_⟩
      rcases List.mem_cons.1 hg with rfl | hg
      · exact celT_info hT h1
      · exact h4 g hg
    · cases h

def fillF (fl : FL) (pl : List (Nat × Nat)) : List Cell→List (Nat × Operand)→Option (List Cell)
  | cs,[]=>some cs
  | cs,(i,x) :: r=>match pl[i]?,opO fl x with
    | some (off,1),some (.c y)=>match solidF y,setL cs off y with
      | true,some cs'=>fillF fl pl cs' r
      | _,_=>none
    | some (off,n),some (.agg ys)=>match Nat.beq ys.length n,Nat.ble (off + n) cs.length with
      | true,true=>fillF fl pl (spl cs off ys) r
      | _,_=>none
    | _,_=>none
theorem fillF_spec {fl : FL} {pl : List (Nat × Nat)} {place : Nat→Option (Nat × Nat)} (hp : ∀ i q,pl[i]? = some q→place i = some q) : ∀ {ps : List (Nat × Operand)} {cs out : List Cell},fillF fl pl cs ps = some out→fillE place (look (lk' fl)) cs ps out
  | [],cs,out,h=>by simp only [fillF,Option.some.injEq] at h;exact h.symm
  | (i,x) :: r,cs,out,h=>by
    simp only [fillF] at h
    split at h
    · rename_i off y h1 h2
      split at h
      · rename_i cs' h3 h4
        obtain ⟨h5,rfl⟩:=setL_spec h4
        have ih:=fillF_spec hp h
        exact ⟨off,1,hp _ _ h1,by rw [opO_look h2];exact solidF_spec h3,by rw [opO_look h2];rfl,h5,by rw [opO_look h2];exact ih⟩
      · cases h
    · rename_i off n ys h1 h2
      split at h
      · rename_i h3 h4
        have h3:=Nat.eq_of_beq_eq_true h3
        have h4:=Nat.le_of_ble_eq_true h4
        have ih:=fillF_spec hp h
        exact ⟨off,n,hp _ _ h1,by rw [opO_look h2];trivial,by rw [opO_look h2];exact h3,h4,by rw [opO_look h2];exact ih⟩
      · cases h
    · cases h

def capsF : List AVal→Option (List Cell)
  | []=>some []
  | .c y :: xs=>match solidF y,capsF xs with
    | true,some r=>some (y :: r)
    | _,_=>none
  | _=>none
theorem capsF_spec : ∀ {xs : List AVal} {cs : List Cell},capsF xs = some cs→xs = cs.map .c∧∀ y ∈ cs,y.solid
  | [],cs,h=>by simp only [capsF,Option.some.injEq] at h;subst h;simp
  | .c y :: xs,cs,h=>by
    simp only [capsF] at h
    split at h
    · rename_i r h1 h2
      obtain ⟨h3,h4⟩:=capsF_spec h2
      simp only [Option.some.injEq] at h
      subst h
      refine ⟨by simp [h3],fun z hz=>?_⟩
      rcases List.mem_cons.1 hz with rfl | hz
      · exact solidF_spec h1
      · exact h4 z hz
    · cases h
  | .agg _ :: _,_,h=>by cases h
  | .fn _ _ :: _,_,h=>by cases h
  | .accv _ _ :: _,_,h=>by cases h
  | .accp _ _ :: _,_,h=>by cases h
  | .tup _ :: _,_,h=>by cases h

def splF : List Cell→Nat→List Cell→Option (List Cell)
  | [],0,[]=>some []
  | [],_,_=>none
  | c :: cs,0,[]=>match splF cs 0 [] with | some r=>some (c :: r) | none=>none
  | _ :: cs,0,y :: ys=>match splF cs 0 ys with | some r=>some (y :: r) | none=>none
  | c :: cs,n + 1,ys=>match splF cs n ys with | some r=>some (c :: r) | none=>none
theorem splF_spec : ∀ {cs : List Cell} {n : Nat} {ys cs' : List Cell},splF cs n ys = some cs'→spl cs n ys = cs'∧n + ys.length ≤ cs.length
  | [],0,[],cs',h=>by simp only [splF,Option.some.injEq] at h;subst h;simp [spl]
  | [],0,y :: ys,cs',h=>by simp [splF] at h
  | [],n + 1,ys,cs',h=>by simp [splF] at h
  | c :: cs,0,[],cs',h=>by
    simp only [splF] at h
    split at h
    · rename_i r hr
      obtain ⟨h1,h2⟩:=splF_spec hr
      simp only [Option.some.injEq] at h
      subst h
      simp [spl] at h1 ⊢
      exact h1
    · cases h
  | c :: cs,0,y :: ys,cs',h=>by
    simp only [splF] at h
    split at h
    · rename_i r hr
      obtain ⟨h1,h2⟩:=splF_spec hr
      simp only [Option.some.injEq] at h
      subst h
      simp [spl] at h1 ⊢
      exact ⟨h1,by omega⟩
    · cases h
  | c :: cs,n + 1,ys,cs',h=>by
    simp only [splF] at h
    split at h
    · rename_i r hr
      obtain ⟨h1,h2⟩:=splF_spec hr
      simp only [Option.some.injEq] at h
      subst h
      simp [spl,Nat.add_right_comm n 1] at h1 ⊢
      exact ⟨h1,by omega⟩
    · cases h

section
variable {P : Program} {T : TT} {mu : FuncId→Bool} {N : Nat} {ops : Array Oper} {fl : FL} {sl : SL} {S S' : Store} {K : St→Prop} {Q : Exit→St→Prop} {l : List Oper}
  {d : Nat} {ty : TypeId} {pos : String} {after : Array Edge}

theorem zg16 {t : TypeId} {ps : Array (Nat × Operand)} {fs : Array Field} {pl : List (Nat × Nat)} {z out : List Cell} (hT : TOk P T) (k : K ⟨lk' ((d,.agg out) :: fl),S'⟩) (hu : undT T t = some (.struct fs):=by exact rfl) (hp : placesT T fs.toList = some pl:=by exact rfl)
    (hz : zerF T t = some z:=by exact rfl) (hf : fillF fl pl z ps.toList = some out:=by exact rfl) :
    Stp P mu ops ⟨some d,.build t ps,ty,pos,after,none⟩ ⟨lk' fl,S'⟩ K:=by
  obtain ⟨h1,h2⟩:=placesT_spec hT hp
  obtain ⟨h3,h4⟩:=zerF_spec hT hz
  refine ⟨_,⟨.agg out,S',⟨?_,rfl⟩,rfl⟩,by rw [putF_lk];exact k⟩
  refine .inl ⟨fs,z,out,hT.und hu,fun f hf=>h2 f (by simpa using hf),h3,h4,fillF_spec (fun i q hq=>?_) hf,rfl⟩
  rw [← h1] at hq
  simpa [placesOf] using hq

theorem zg17 {g : FuncId} {cap : Array Operand} {xs : List AVal} {cs : List Cell} (_ : TOk P T) (k : K ⟨lk' ((d,.fn g cs) :: fl),S'⟩) (hx : opsO fl cap.toList = some xs:=by exact rfl) (hc : capsF xs = some cs:=by exact rfl) :
    Stp P mu ops ⟨some d,.makeFunc (.func g) #[] cap,ty,pos,after,none⟩ ⟨lk' fl,S'⟩ K:=by
  obtain ⟨h1,h2⟩:=capsF_spec hc
  exact ⟨_,⟨.fn g cs,S',⟨.inl ⟨rfl,cs,by rw [opsO_look hx,h1],h2,rfl⟩,rfl⟩,rfl⟩,by rw [putF_lk];exact k⟩

theorem zg18 {e : TypeId} {x : Operand} {ys : List Cell} (_ : TOk P T) (k : K ⟨lk' ((d,.c (.ptr (.loc d) 0)) :: fl),ov ((.loc d,.cells e ys) :: sl) (pushS S)⟩) (hx : opO fl x = some (.agg ys):=by exact rfl) (hf : freeO sl d = true:=by exact fro) :
    Stp P mu ops ⟨some d,.box e x,ty,pos,after,none⟩ ⟨lk' fl,ov sl (pushS S)⟩ K :=
  ⟨_,⟨_,_,⟨d,.cells e ys,rfl,freeO_spec hf,⟨by rw [opO_look hx];trivial,rfl,by rw [opO_look hx];rfl⟩,rfl⟩,rfl⟩,by rw [putF_lk,upd_ov];exact k⟩

theorem zg19 {e : TypeId} {x : Operand} {y : Cell} (_ : TOk P T) (k : K ⟨lk' ((d,.c (.ptr (.loc d) 0)) :: fl),ov ((.loc d,.cells e [y]) :: sl) (pushS S)⟩) (hx : opO fl x = some (.c y):=by exact rfl) (hs : solidF y = true:=by exact rfl) (hf : freeO sl d = true:=by exact fro) :
    Stp P mu ops ⟨some d,.box e x,ty,pos,after,none⟩ ⟨lk' fl,ov sl (pushS S)⟩ K:=stp_box hx hs hf k

theorem zg20 {t : TypeId} {x : Operand} {m : Nm} {off n : Nat} {ty' : TypeId} {cs : List Cell} (hT : TOk P T) (k : K ⟨lk' ((d,.agg ((cs.drop off).take (n + 1))) :: fl),ov sl S⟩) (hx : opO fl x = some (.c (.ptr m off)):=by exact rfl) (ha : agT T t = some true:=by exact rfl) (hn : celT T t = n + 1:=by exact rfl)
    (hm : lkS sl m = some (.cells ty' cs):=by exact lks) (hl : Nat.ble (off + (n + 1)) cs.length = true:=by exact rfl) : Stp P mu ops ⟨some d,.load t x,ty,pos,after,none⟩ ⟨lk' fl,ov sl S⟩ K :=
  stp_loada hT hx ha hn hm (Nat.le_of_ble_eq_true hl) k

theorem zg21 {t : TypeId} {x : Operand} {cs : List Leaf} {n : Nat} (hT : TOk P T) (k : K ⟨lk' ((d,.agg ((cs.take (n + 1)).map Leaf.cell)) :: fl),S'⟩) (hx : opO fl x = some (.c (.pim cs)):=by exact rfl) (ha : agT T t = some true:=by exact rfl) (hn : celT T t = n + 1:=by exact rfl) (hl : Nat.ble (n + 1) cs.length = true:=by exact rfl) :
    Stp P mu ops ⟨some d,.load t x,ty,pos,after,none⟩ ⟨lk' fl,S'⟩ K:=stp_loadpa hT hx ha hn (Nat.le_of_ble_eq_true hl) k

theorem zg22 {t : TypeId} {x y : Operand} {m : Nm} {off n : Nat} {ty' : TypeId} {cs ys cs' : List Cell} (hT : TOk P T) (k : K ⟨lk' fl,ov ((m,.cells ty' cs') :: sl) S⟩) (hx : opO fl x = some (.c (.ptr m off)):=by exact rfl) (hy : opO fl y = some (.agg ys):=by exact rfl) (hn : celT T t = n + 1:=by exact rfl)
    (hm : lkS sl m = some (.cells ty' cs):=by exact lks) (h1 : Nat.beq ys.length (n + 1) = true:=by exact rfl) (h2 : splF cs off ys = some cs':=by exact rfl) : Stp P mu ops ⟨none,.store t x y,ty,pos,after,none⟩ ⟨lk' fl,ov sl S⟩ K:=by
  obtain ⟨rfl,h3⟩:=splF_spec h2
  exact stp_store (o':=.cells ty' (spl cs off ys)) (C:=ys.length = n + 1∧off + ys.length ≤ cs.length) hT hx hy hm (by simp only [putO,hn]) ⟨Nat.eq_of_beq_eq_true h1,h3⟩ k

theorem s_intsA {t e : TypeId} {n : Nat} {ps : Array (Nat × Operand)} {k : IntKind} {L : List Int} (hT : TOk P T) (kk : K ⟨lk' ((d,.accv (.loc d) n) :: fl),ov ((.loc d,.accI e k L) :: sl) (pushS S)⟩)
    (hp : intsPart fl ps.toList 0 = some (k,L) ∨ (ps.toList = []∧L = []):=by first | exact .inl rfl | exact .inr ⟨rfl,rfl⟩) (ht : undT T t = some (.slice e):=by exact rfl) (hc1 : celT T e = 1:=by exact rfl) (hz : zerF T e = some [.sc (.int k 0)]:=by exact rfl)
    (hn : Nat.beq ps.toList.length n = true:=by exact rfl) (hsmall : Nat.ble n 1000 = true:=by exact rfl) (hf : freeO sl d = true:=by exact fro) :
    Stp P mu ops ⟨some d,.buildSlice t n ps,ty,pos,after,none⟩ ⟨lk' fl,ov sl (pushS S)⟩ K:=stp_intsA hT ht hc1 hz hp hn hsmall hf kk

theorem s_makeA {t e : TypeId} {l c : Operand} {a b : Int} {ka kb k : IntKind} {nb : Nat} (hT : TOk P T) (hab : a = b) (hb : 0 ≤ a∧(nb : Int) * b ≤ 281474976710656∧b ≤ 9223372036854775807) (kk : K ⟨lk' ((d,.accv (.loc d) b.toNat) :: fl),ov ((.loc d,.accI e k (List.replicate b.toNat 0)) :: sl) (pushS S)⟩)
    (ht : undT T t = some (.slice e):=by exact rfl) (hc1 : celT T e = 1:=by exact rfl) (hb8 : bytT T e = some nb:=by exact rfl) (hz : zerF T e = some [.sc (.int k 0)]:=by exact rfl)
    (hl : opO fl l = some (ivl ka a):=by exact rfl) (hc : opO fl c = some (ivl kb b):=by exact rfl) (hf : freeO sl d = true:=by exact fro) :
    Stp P mu ops ⟨some d,.makeSlice t l c,ty,pos,after,none⟩ ⟨lk' fl,ov sl (pushS S)⟩ K:=stp_makeA hT ht hc1 hb8 hz hl hc hf hab hb kk

theorem run_eq_nil {t e : TypeId} (ht : P.underlying t = some (.slice e)) (A : Option Addr) (n c : Nat) (w : World) : (Op.equal t (.slice A n c) (.slice none 0 0)).run P w = .ok A.isNone w:=by
  have : ∀ d,(Op.equalIn (d + 1) t (.slice A n c) (.slice none 0 0)).run P w = .ok A.isNone w:=fun d=>by
    cases A <;> simp [Op.equalIn,run_underlying' ht]
  exact this 9999

theorem aw_isnil (hT : TOk P T) {op : BinOp} {x : Operand} {t t1 : TypeId} {e : TypeId} {k : IntKind} {L : List Int} (neg : Bool) (h1 : L = []→aw P mu N ops Q l ⟨lk' ((d,bvl (!neg)) :: fl),S'⟩) (h2 : aw P mu N ops Q l ⟨lk' ((d,bvl neg) :: fl),S'⟩)
    (hop : op = (if neg then .neq else .eql):=by exact rfl) (hu : undT T t = some (.slice e):=by exact rfl) (hx : opO fl x = some (.c (.ints k L)):=by exact rfl) :
    aw P mu N ops Q (⟨some d,.binOp op t x (.const (.slice none 0 0)) t1,ty,pos,after,none⟩ :: l) ⟨lk' fl,S'⟩:=by
  intro hb B w ρ a hd hn hi
  refine wpList_step fun K hK=>?_
  have hv:=hi.sim.look x
  rw [opO_look hx] at hv
  obtain ⟨A,cap,hv,-,-,hv3⟩:=hv
  simp only [Region.wanted,if_true]
  have go : ∀ b : Bool,aw P mu N ops Q l ⟨lk' ((d,bvl b) :: fl),S'⟩→K (a.put (some d) (.bool b)) w:=fun b h=>by
    have hdl : ∀ t,some d = some t→t < a.tmps.size:=fun t ht=>by rw [hn];exact hb _ List.mem_cons_self t ht
    have hs:=hi.sim.put (d:=some d) (v:=bvl b) (u:=.bool b) hi.sim.env (Ext.refl _ _ _) (lk' fl) (fun t=>.inr ⟨rfl,fun _ hX=>hX.elim⟩) hdl (rfl : Value.bool b = .bool b)
    rw [putF_lk] at hs
    exact hK _ _ (h (fun o ho=>hb o (by simp [ho])) B w ρ _ (by rw [put_defers];exact hd) (by rw [put_size];exact hn) (hi.step hs (Ext.refl _ _ _) (fun _ h=>h.elim)))
  have hrun : (execOp a.eval ⟨some d,.binOp op t x (.const (.slice none 0 0)) t1,ty,pos,after,none⟩).run P w = .ok (.value (.bool (A.isNone != neg))) w:=by
    have e1 : a.eval x = .slice A L.length cap:=hv
    have e2 : a.eval (.const (.slice none 0 0)) = .slice none 0 0:=rfl
    subst hop
    cases neg
    · simp only [execOp,e1,e2,if_false,Bool.false_eq_true]
      simp [eqGuard,binOp,run_eq_nil (hT.und hu)]
    · simp only [execOp,e1,e2,if_true]
      simp [eqGuard,binOp,run_eq_nil (hT.und hu)]
  unfold Oper.wp
  rw [hrun]
  cases A with
  | none =>
    have hL : L = []:=by
      cases L with
      | nil=>rfl
      | cons y ys=>obtain ⟨b,off,q,-⟩:=hv3 (by simp);cases q
    have:=go (!neg) (h1 hL)
    cases neg <;> exact this
  | some A =>
    have:=go neg h2
    cases neg <;> exact this
end
end Go.Abs

/-
  States told anew where what was handed in has been written.
-/
namespace Go.Abs
open Go

theorem outsL_nil_lk {sl : SL} (h : outsL sl = []) (m : Nm) : lkS sl (.out m) = none:=by rw [← outsL_lk,h];rfl

theorem FrzO.of_nm0 {A B : Store} {o : AObj} (h : o.nm0) : FrzO A B o o:=by
  exact .keep fun x hx m hm=>absurd hm (h x hx m)

section
variable {P : Program} {mu : FuncId→Bool}
variable {fl fl' : FL} {sl sl' : SL} {S : Store}

theorem frzO (hS : ∀ n b,S n = some b→b.cl S) (hout : ∀ m,lkS sl' (.out m) = lkS sl (.out m)) (hs : FrzS (ov sl (pushS S)) (ov sl' (pushS S)) sl') (hf : FrzF (ov sl (pushS S)) (ov sl' (pushS S)) fl fl') :
    Weak ⟨lk' fl,ov sl (pushS S)⟩ ⟨lk' fl',ov sl' (pushS S)⟩:=by
  refine Weak.frz (fun m o' hm=>?_) (fun m=>?_) (fun t=>?_)
  · simp only [ov] at hm
    split at hm
    · rename_i o1 h1
      obtain rfl:=Option.some.inj hm
      exact hs.at m _ h1
    · rename_i h1
      obtain ⟨q,b,rfl,hb,rfl⟩:=pushS_some hm
      refine .inl ⟨b.map .out,by simp only [ov];rw [← hout,h1];exact hm,.keep fun x hx m hm'=>?_⟩
      have hcl:=(AObj.cl_cls (S:=S)).1 (hS q _ hb)
      obtain ⟨z,hz,rfl⟩:=cls_map hx
      obtain ⟨n,hn,rfl⟩:=Cell.map_at hm'
      have:=hcl z hz n hn
      simp only [ov]
      split
      · simp
      · simp only [pushS]
        cases e : S n with
        | none=>exact absurd e this
        | some z=>simp
  · simp only [ov,hout]
  · show (lk' fl' t) = _ ∨ _
    simp only [lk']
    cases e : lkO fl' t with
    | none=>exact .inl rfl
    | some v =>
      obtain ⟨u,h1,h2⟩:=hf.at t v e
      rw [h1]
      exact .inr h2

theorem frz1 {z : Nm} {o o' : AObj} {sl'' : SL} (hS : ∀ n b,S n = some b→b.cl S) (hm : lkS sl (.out z) = some o) (hn : o'.nm0) (h1 : ∀ m,m ≠ z→lkS sl (.out m) = none) (h2 : outsL sl'' = []) (e : o = o')
    (hs : FrzS (ov sl (pushS S)) (ov ((.out z,o') :: sl'') (pushS S)) sl'') (hf : FrzF (ov sl (pushS S)) (ov ((.out z,o') :: sl'') (pushS S)) fl fl') :
    Weak ⟨lk' fl,ov sl (pushS S)⟩ ⟨lk' fl',ov ((.out z,o') :: sl'') (pushS S)⟩:=by
  subst e
  refine frzO hS (fun m=>?_) ⟨.inl ⟨o,ov_of hm,.of_nm0 hn⟩,hs⟩ hf
  by_cases q : m = z
  · subst q;rw [hm];simp [lkS]
  · rw [h1 m q];simp [lkS,q,outsL_nil_lk h2]

theorem frz2 {z y : Nm} {o o' p p' : AObj} {sl'' : SL} (hS : ∀ n b,S n = some b→b.cl S) (hzy : z ≠ y) (hm : lkS sl (.out z) = some o) (hp : lkS sl (.out y) = some p) (hn : o'.nm0) (hn' : p'.nm0) (h1 : ∀ m,m ≠ z→m ≠ y→lkS sl (.out m) = none) (h2 : outsL sl'' = []) (e : o = o') (e' : p = p')
    (hs : FrzS (ov sl (pushS S)) (ov ((.out z,o') :: (.out y,p') :: sl'') (pushS S)) sl'') (hf : FrzF (ov sl (pushS S)) (ov ((.out z,o') :: (.out y,p') :: sl'') (pushS S)) fl fl') :
    Weak ⟨lk' fl,ov sl (pushS S)⟩ ⟨lk' fl',ov ((.out z,o') :: (.out y,p') :: sl'') (pushS S)⟩:=by
  subst e;subst e'
  refine frzO hS (fun m=>?_) ⟨.inl ⟨o,ov_of hm,.of_nm0 hn⟩,.inl ⟨p,ov_of hp,.of_nm0 hn'⟩,hs⟩ hf
  by_cases q : m = z
  · subst q;rw [hm];simp [lkS]
  · by_cases q2 : m = y
    · subst q2;rw [hp];simp [lkS,q]
    · rw [h1 m q q2];simp [lkS,q,q2,outsL_nil_lk h2]

theorem endP1 {T : TT} (hT : TOk P T) {fn : Func} {z : Nm} {o o' : AObj} {res : AVal} {e : Exit} {vs : List AVal} (he : e = .normal ∨ e = .ret) (hS : ∀ n b,S n = some b→b.cl S) (hm : lkS sl (.out z) = some o) (hn : o'.nm0) (h1 : ∀ m,m ≠ z→lkS sl (.out m) = none) (eo : o = o')
    (hf : FrzF (ov sl (pushS S)) (ov [(.out z,o')] (pushS S)) fl fl') (hr : resL T fl' fn.results.toList = some vs) (hfl : flatL vs = true) (hv : oneR vs = res.map .out) : EndP P fn S [(z,o')] res e ⟨lk' fl,ov sl (pushS S)⟩ :=
  ⟨he,T,fl',vs,hT,frz1 (sl'':=[]) hS hm hn h1 rfl eo trivial hf,hr,hfl,hv⟩

theorem endP2 {T : TT} (hT : TOk P T) {fn : Func} {z y : Nm} {o o' p p' : AObj} {res : AVal} {e : Exit} {vs : List AVal} (he : e = .normal ∨ e = .ret) (hS : ∀ n b,S n = some b→b.cl S) (hzy : z ≠ y) (hm : lkS sl (.out z) = some o) (hp : lkS sl (.out y) = some p) (hn : o'.nm0) (hn' : p'.nm0) (h1 : ∀ m,m ≠ z→m ≠ y→lkS sl (.out m) = none) (eo : o = o') (ep : p = p')
    (hf : FrzF (ov sl (pushS S)) (ov [(.out z,o'),(.out y,p')] (pushS S)) fl fl') (hr : resL T fl' fn.results.toList = some vs) (hfl : flatL vs = true) (hv : oneR vs = res.map .out) : EndP P fn S [(z,o'),(y,p')] res e ⟨lk' fl,ov sl (pushS S)⟩ :=
  ⟨he,T,fl',vs,hT,frz2 (sl'':=[]) hS hzy hm hp hn hn' h1 rfl eo ep trivial hf,hr,hfl,hv⟩

theorem cells_nm0 {ty : TypeId} {ls : List Leaf} : (AObj.cells ty (ls.map Leaf.cell)).nm0:=fun _ hx m=>leaves_nm0 hx m
theorem ints_nm0 {ty : TypeId} {k : IntKind} {L : List Int} : (AObj.ints ty k L).nm0:=fun x hx=>absurd hx List.not_mem_nil

theorem aproc1 {f : FuncId} {fn : Func} {c : Code} {args : List AVal} {z : Nm} {o o' : AObj} {res : AVal} (hf : P.funcs[f]? = some fn) (hb : fn.body = some c) (hname : (fn.name == "runtime.NumGoroutine") = false)
    (hm : P.follows .mixedOrders = true) (hok : okC fn.ntmps mu c = true) (hl : args.length ≤ fn.ntmps) (hA : ∀ q x,x ∈ args→x.at q→q = z) (hz : ∃ x ∈ args,x.at z) (hR : ∀ q,res.at q→q = z)
    (hn : o.nm0) (hn' : o'.nm0)
    (h : ∀ S,(∀ n b,S n = some b→b.cl S)→awp P mu fn.ntmps c (EndP P fn S [(z,o')] res) ⟨lk' (entryL 0 (args.map (·.map .out))),ov [(.out z,o)] (pushS S)⟩) : AProc P f args [(z,o)] [(z,o')] res :=
  aproc hf hb hname hm hok hl (fun q x hx hq=>⟨o,by rw [hA q x hx hq];simp⟩) (fun q hq=>by rw [hR q hq];exact hz) (fun p hp=>by simp at hp;rw [hp];exact hz)
    (fun p hp=>by simp at hp;rw [hp];exact ⟨hn,hz⟩) (fun p hp=>by simp at hp;rw [hp];exact hn') (by simp) h

theorem aproc2 {f : FuncId} {fn : Func} {c : Code} {args : List AVal} {z y : Nm} {o o' p p' : AObj} {res : AVal} (hzy : z ≠ y) (hf : P.funcs[f]? = some fn) (hb : fn.body = some c) (hname : (fn.name == "runtime.NumGoroutine") = false)
    (hm : P.follows .mixedOrders = true) (hok : okC fn.ntmps mu c = true) (hl : args.length ≤ fn.ntmps) (hA : ∀ q x,x ∈ args→x.at q→q = z ∨ q = y) (hz : ∃ x ∈ args,x.at z) (hy : ∃ x ∈ args,x.at y) (hR : ∀ q,res.at q→q = z ∨ q = y)
    (hn : o.nm0) (hn' : o'.nm0) (hp : p.nm0) (hp' : p'.nm0)
    (h : ∀ S,(∀ n b,S n = some b→b.cl S)→awp P mu fn.ntmps c (EndP P fn S [(z,o'),(y,p')] res) ⟨lk' (entryL 0 (args.map (·.map .out))),ov [(.out z,o),(.out y,p)] (pushS S)⟩) : AProc P f args [(z,o),(y,p)] [(z,o'),(y,p')] res :=
  aproc hf hb hname hm hok hl (fun q x hx hq=>by rcases hA q x hx hq with rfl | rfl;exact ⟨o,by simp⟩;exact ⟨p,by simp⟩) (fun q hq=>by rcases hR q hq with rfl | rfl;exact hz;exact hy)
    (fun r hr=>by simp at hr;rcases hr with rfl | rfl;exact hz;exact hy) (fun r hr=>by simp at hr;rcases hr with rfl | rfl;exact ⟨hn,hz⟩;exact ⟨hp,hy⟩)
    (fun r hr=>by simp at hr;rcases hr with rfl | rfl;exact hn';exact hp') (by simp [hzy]) h
end

section
variable {P : Program} {T : TT} {mu : FuncId→Bool} {N : Nat} {ops : Array Oper} {fl : FL} {sl : SL} {S S' : Store} {K : St→Prop}
  {d : Nat} {ty : TypeId} {pos : String} {after : Array Edge}
theorem s_app8 {s x : Operand} {tys : Array TypeId} {t e : TypeId} {as : Array Operand} {m : Nm} {n0 : Nat} {k : IntKind} {L Y : List Int} {xv : AVal} (hT : TOk P T) (hY : srcE (ov sl S) xv k Y)
    (hl : L.length + Y.length ≤ 17592186044416) (kk : K ⟨lk' ((d,.accv m (n0 + Y.length)) :: killL m fl),ov ((m,.accI e k (L ++ Y)) :: sl) S⟩)
    (ha : as.toList = [s,x]:=by exact rfl) (ht : tys.toList = [t,t]:=by exact rfl) (hu : undT T t = some (.slice e):=by exact rfl) (hc1 : celT T e = 1:=by exact rfl)
    (hz : zerT T e = some (.int k 0):=by exact rfl) (hs : opO fl s = some (.accv m n0):=by exact rfl) (hx : opO fl x = some xv:=by exact rfl) (hm : lkS sl m = some (.accI e k L):=by exact lks) (hn : L.length = n0:=by first | rfl | exact List.length_map .. | (simp;done) | (simp;omega))
    (ho : m.isOut = false:=by exact rfl) (hb : bytT T e = some 8:=by exact rfl) :
    Stp P mu ops ⟨some d,.call ⟨.builtin .append,as,tys⟩,ty,pos,after,none⟩ ⟨lk' fl,ov sl S⟩ K:=stp_app hT ha ht hu hc1 hz hs hx hm hn ho hY hb ⟨by omega,by simp only [maxLen];omega⟩ kk
theorem s_app08 {s x : Operand} {tys : Array TypeId} {t e : TypeId} {as : Array Operand} {k : IntKind} {Y : List Int} {xv : AVal} (hT : TOk P T) (hY : srcE (ov sl (pushS S)) xv k Y)
    (hl : Y.length ≤ 17592186044416) (kk : K ⟨lk' ((d,.accv (.loc d) Y.length) :: killL (.loc d) fl),ov ((.loc d,.accI e k Y) :: sl) (pushS S)⟩)
    (ha : as.toList = [s,x]:=by exact rfl) (ht : tys.toList = [t,t]:=by exact rfl) (hu : undT T t = some (.slice e):=by exact rfl) (hc1 : celT T e = 1:=by exact rfl)
    (hz : zerT T e = some (.int k 0):=by exact rfl) (hs : opO fl s = some nils:=by exact rfl) (hx : opO fl x = some xv:=by exact rfl) (hf : freeO sl d = true:=by exact fro) (hb : bytT T e = some 8:=by exact rfl) :
    Stp P mu ops ⟨some d,.call ⟨.builtin .append,as,tys⟩,ty,pos,after,none⟩ ⟨lk' fl,ov sl (pushS S)⟩ K:=stp_app0 hT ha ht hu hc1 hz hs hx hf hY hb ⟨by omega,by simp only [maxLen];omega⟩ kk
end

theorem ovNe {sl : SL} {S : Store} {m : Nm} {o : AObj} (h : lkS sl m = some o) : ov sl S m ≠ none:=by rw [ov_of h];simp
theorem fF {A B : Store} {fl r : FL} {t : Nat} {u v : AVal} (h : FrzV A B u v) (h2 : FrzF A B fl r) (e : lkO fl t = some u:=by exact rfl) : FrzF A B fl ((t,v) :: r):=⟨⟨u,e,h⟩,h2⟩
theorem fS {A B : Store} {r : SL} {m : Nm} {o o' : AObj} (h : FrzO A B o o') (h2 : FrzS A B r) (e : A m = some o:=by exact ov_of lks) : FrzS A B ((m,o') :: r):=⟨.inl ⟨o,e,h⟩,h2⟩
end Go.Abs

/-
  A block that is written no more: all that look at it are told as they stand.
-/
namespace Go.Abs
open Go

def Nm.isLoc (d : Nat) : Nm→Bool
  | .loc a=>Nat.beq a d
  | _=>false
theorem Nm.isLoc_t {d : Nat} {m : Nm} (h : m.isLoc d = true) : m = .loc d:=by
  cases m with
  | loc a=>exact congrArg Nm.loc (Nat.eq_of_beq_eq_true h)
  | _=>cases h
theorem Nm.isLoc_f {d : Nat} {m : Nm} (h : m.isLoc d = false) : m ≠ .loc d:=fun e=>by
  subst e;simp [Nm.isLoc] at h

def Cell.hasL (d : Nat) : Cell→Bool
  | .win m _ _ _=>m.isLoc d
  | .ptr m _=>m.isLoc d
  | _=>false
theorem Cell.hasL_f {d : Nat} {x : Cell} (h : x.hasL d = false) {m : Nm} (hm : x.at m) : m ≠ .loc d:=by
  cases x with
  | win n _ _ _=>rw [← show n = m from hm];exact Nm.isLoc_f h
  | ptr n _=>rw [← show n = m from hm];exact Nm.isLoc_f h
  | _=>exact hm.elim

@[simp] theorem Leaf.hasL_cell (d : Nat) (l : Leaf) : l.cell.hasL d = false:=by cases l <;> rfl

def leafC : Cell→Option Leaf
  | .sc v=>some (.sc v)
  | .ints k L=>some (.ints k L)
  | .intc k L n=>some (.intc k L n)
  | .pim cs=>some (.pim cs)
  | .seq sz L=>some (.seq sz L)
  | .seqc sz L n=>some (.seqc sz L n)
  | _=>none
def leafsC : List Cell→Option (List Leaf)
  | []=>some []
  | x :: xs=>match leafC x,leafsC xs with
    | some y,some ys=>some (y :: ys)
    | _,_=>none
theorem leafC_spec {x : Cell} {l : Leaf} (h : leafC x = some l) : x = l.cell:=by
  cases x <;> simp only [leafC] at h <;> first | cases h;done | (obtain rfl:=Option.some.inj h;rfl)
theorem leafsC_spec : ∀ {xs : List Cell} {ls : List Leaf},leafsC xs = some ls→xs = ls.map Leaf.cell
  | [],ls,h=>by simp only [leafsC,Option.some.injEq] at h;subst h;rfl
  | x :: xs,ls,h=>by
    simp only [leafsC] at h
    split at h
    · rename_i y ys h1 h2
      obtain rfl:=Option.some.inj h
      rw [leafC_spec h1,leafsC_spec h2];rfl
    · cases h

def fzC (d : Nat) (o : AObj) : Cell→Cell
  | .win m off len cm=>match m.isLoc d with
    | false=>.win m off len cm
    | true=>match o with
      | .ints _ k L=>.ints k ((L.drop off).take len)
      | _=>.junk
  | .ptr m off=>match m.isLoc d with
    | false=>.ptr m off
    | true=>match o with
      | .cells _ cs=>match leafsC (cs.drop off) with
        | some ls=>.pim ls
        | none=>.junk
      | _=>.junk
  | x=>x
def fzV (d : Nat) (o : AObj) (av : AVal) : AVal→AVal
  | .c x=>.c (fzC d o x)
  | .agg cs=>.agg (cs.map (fzC d o))
  | .fn f cs=>match cs.any (Cell.hasL d) with
    | true=>.c .junk
    | false=>.fn f cs
  | .accv m n=>match m.isLoc d with
    | false=>.accv m n
    | true=>av
  | .accp _ _=>.c .junk
  | .tup _=>.c .junk

def fzCP (d : Nat) (o : AObj) : Cell→Prop
  | .win m off len _=>match m.isLoc d with
    | false=>True
    | true=>match o with
      | .ints _ _ L=>off + len ≤ L.length
      | _=>True
  | _=>True
def fzCsP (d : Nat) (o : AObj) : List Cell→Prop
  | []=>True
  | x :: xs=>fzCP d o x∧fzCsP d o xs
def fzP (d : Nat) (o : AObj) : FL→Prop
  | []=>True
  | (_,.c (.win m off len cm)) :: r=>fzCP d o (.win m off len cm)∧fzP d o r
  | (_,.agg cs) :: r=>fzCsP d o cs∧fzP d o r
  | _ :: r=>fzP d o r

def delL (d : Nat) : SL→SL
  | []=>[]
  | (m,o) :: r=>match m.isLoc d with
    | true=>delL d r
    | false=>(m,o) :: delL d r
theorem delL_at (d : Nat) : ∀ sl : SL,lkS (delL d sl) (.loc d) = none
  | []=>rfl
  | (m,o) :: r=>by
    simp only [delL]
    cases e : m.isLoc d with
    | true=>exact delL_at d r
    | false =>
      simp only [lkS]
      rw [if_neg (fun q=>Nm.isLoc_f e q.symm)]
      exact delL_at d r
theorem delL_ne (d : Nat) {q : Nm} (hq : q ≠ .loc d) : ∀ sl : SL,lkS (delL d sl) q = lkS sl q
  | []=>rfl
  | (m,o) :: r=>by
    simp only [delL]
    cases e : m.isLoc d with
    | true =>
      simp only [lkS]
      rw [if_neg (fun h=>hq (h.trans (Nm.isLoc_t e)))]
      exact delL_ne d hq r
    | false=>simp only [lkS];rw [delL_ne d hq r]

def noL (d : Nat) : SL→Bool
  | []=>true
  | (m,.cells _ cs) :: r=>match m.isLoc d,cs.any (Cell.hasL d) with
    | false,true=>false
    | _,_=>noL d r
  | (m,.row _ cs) :: r=>match m.isLoc d,cs.any (Cell.hasL d) with
    | false,true=>false
    | _,_=>noL d r
  | (m,.acc _ _ R) :: r=>match m.isLoc d,R.any (fun c=>c.any (Cell.hasL d)) with
    | false,true=>false
    | _,_=>noL d r
  | _ :: r=>noL d r
theorem ir_any (d : Nat) (k : IntKind) (L : List Int) : ((ir k L).any fun c=>c.any (Cell.hasL d)) = false:=by
  induction L with
  | nil=>rfl
  | cons a L ih=>simpa [ir,Cell.hasL] using ih
theorem noL_spec {d : Nat} : ∀ {sl : SL},noL d sl = true→∀ m o,lkS sl m = some o→m ≠ .loc d→∀ x ∈ o.cls,x.hasL d = false
  | (n,o0) :: r,h,m,o,hm,hne,x,hx=>by
    simp only [lkS] at hm
    split at hm
    · rename_i e
      subst e
      obtain rfl:=Option.some.inj hm
      have e1 : m.isLoc d = false:=by
        cases e1 : m.isLoc d with
        | true=>exact absurd (Nm.isLoc_t e1) hne
        | false=>rfl
      cases o0 with
      | ints _ _ _=>exact absurd hx List.not_mem_nil
      | fix _=>exact absurd hx List.not_mem_nil
      | row ty cs =>
        simp only [noL,e1] at h
        cases e2 : cs.any (Cell.hasL d) with
        | true=>rw [e2] at h;cases h
        | false=>exact (by simpa using List.any_eq_false.1 e2 x hx)
      | cells ty cs =>
        simp only [noL,e1] at h
        cases e2 : cs.any (Cell.hasL d) with
        | true=>rw [e2] at h;cases h
        | false=>exact (by simpa using List.any_eq_false.1 e2 x hx)
      | acc ty sz R =>
        simp only [noL,e1] at h
        cases e2 : R.any (fun c=>c.any (Cell.hasL d)) with
        | true=>rw [e2] at h;cases h
        | false =>
          obtain ⟨c,hc,hx⟩:=List.mem_flatten.1 hx
          have h3:=List.any_eq_false.1 e2 c hc
          exact (by simpa using List.any_eq_false.1 (by simpa using h3) x hx)
    · refine noL_spec (sl:=r) ?_ m o hm hne x hx
      cases o0 with
      | ints _ _ _=>exact h
      | fix _=>exact h
      | row ty cs=>simp only [noL] at h;split at h <;> first | cases h | exact h
      | cells ty cs=>simp only [noL] at h;split at h <;> first | cases h | exact h
      | acc ty sz R=>simp only [noL] at h;split at h <;> first | cases h | exact h

section
variable {P : Program} {mu : FuncId→Bool} {N : Nat} {ops : Array Oper} {fl : FL} {sl : SL} {S : Store} {Q : Exit→St→Prop} {l : List Oper}

theorem fzCsP_at {d : Nat} {o : AObj} : ∀ {cs : List Cell},fzCsP d o cs→∀ x ∈ cs,fzCP d o x
  | y :: ys,⟨h1,h2⟩,x,hx=>by
    rcases List.mem_cons.1 hx with rfl | hx
    · exact h1
    · exact fzCsP_at h2 x hx
theorem fzP_at {d : Nat} {o : AObj} : ∀ {fl : FL},fzP d o fl→∀ t v,lkO fl t = some v→(∀ x,v = .c x→fzCP d o x)∧∀ cs,v = .agg cs→fzCsP d o cs
  | (s,u) :: r,h,t,v,hv=>by
    simp only [lkO] at hv
    split at hv
    · obtain rfl:=Option.some.inj hv
      refine ⟨fun x e=>?_,fun cs e=>?_⟩
      · subst e
        cases x <;> first | exact h.1 | trivial
      · subst e;exact h.1
    · refine fzP_at (fl:=r) ?_ t v hv
      cases u with
      | c x=>cases x <;> first | exact h.2 | exact h
      | agg cs=>exact h.2
      | _=>exact h
theorem lkO_map (f : AVal→AVal) : ∀ (fl : FL) (t : Nat),lkO (fl.map fun p=>(p.1,f p.2)) t = (lkO fl t).map f
  | [],t=>rfl
  | (s,u) :: r,t=>by
    simp only [List.map_cons,lkO]
    cases Nat.beq s t with
    | true=>rfl
    | false=>exact lkO_map f r t

theorem fzC_frz {A B : Store} {d : Nat} {o : AObj} (hA : A (.loc d) = some o) (hB : B (.loc d) = none) {x : Cell} (hk : x.hasL d = false→∀ m,x.at m→B m ≠ none) (hp : fzCP d o x) : FrzC A B x (fzC d o x):=by
  have keep : x.hasL d = false→FrzC A B x x:=fun h=>.base (.keep (hk h))
  cases x with
  | win m off len cm =>
    simp only [fzC]
    cases e : m.isLoc d with
    | false=>exact keep e
    | true =>
      have:=Nm.isLoc_t e
      subst this
      simp only [fzCP,e] at hp
      cases o with
      | ints ty k L=>exact .base (.win hA hB hp rfl)
      | fix _=>exact .base .junk
      | row _ _=>exact .base .junk
      | cells ty cs=>exact .base .junk
      | acc ty k L=>exact .base .junk
  | ptr m off =>
    simp only [fzC]
    cases e : m.isLoc d with
    | false=>exact keep e
    | true =>
      have:=Nm.isLoc_t e
      subst this
      cases o with
      | ints ty k L=>exact .base .junk
      | fix _=>exact .base .junk
      | row _ _=>exact .base .junk
      | acc ty k L=>exact .base .junk
      | cells ty cs =>
        simp only
        cases e2 : leafsC (cs.drop off) with
        | none=>exact .base .junk
        | some ls =>
          have e3:=leafsC_spec e2
          refine .base (.ptr (fun j=>((ls[j]?).map Leaf.cell).getD .junk) (.inl hA) hB (fun j l hj=>?_) fun j l hj=>by simp only [hj,Option.map_some,Option.getD_some];exact .keep fun q hq=>absurd hq (l.cell_nm q))
          have : (cs.drop off)[j]? = some l.cell:=by rw [e3];simp [hj]
          rw [List.getElem?_drop] at this
          simp only [hj,Option.map_some,Option.getD_some]
          exact this
  | sc v=>exact keep rfl
  | ints k L=>exact keep rfl
  | intc k L n=>exact keep rfl
  | seq n L=>exact keep rfl
  | seqc n L q=>exact keep rfl
  | pim ls=>exact keep rfl
  | fx x=>exact keep rfl
  | junk=>exact keep rfl

theorem Weak.fz {d : Nat} {o : AObj} (hm : lkS sl (.loc d) = some o) (hn : noL d sl = true) (hp : fzP d o fl) {av : AVal} (hav : av = .c .junk ∨ ∀ n,FrzV (ov sl (pushS S)) (ov (delL d sl) (pushS S)) (.accv (.loc d) n) av) : Weak ⟨lk' fl,ov sl (pushS S)⟩ ⟨lk' (fl.map fun p=>(p.1,fzV d o av p.2)),ov (delL d sl) (pushS S)⟩:=fun w ρ tm hs=>by
  have hA : ov sl (pushS S) (.loc d) = some o:=ov_of hm
  have hB : ov (delL d sl) (pushS S) (.loc d) = none:=by simp [ov,delL_at,pushS]
  have hBA : ∀ q,q ≠ .loc d→ov (delL d sl) (pushS S) q = ov sl (pushS S) q:=fun q hq=>by simp [ov,delL_ne d hq]
  have hcl:=hs.env.cl
  refine (Weak.frz (st:=⟨lk' fl,ov sl (pushS S)⟩) (F:=⟨lk' (fl.map fun p=>(p.1,fzV d o av p.2)),ov (delL d sl) (pushS S)⟩) (fun m o' hm'=>?_) (fun m=>hBA _ (fun e=>by cases e)) (fun t=>?_)) w ρ tm hs
  · have hne : m ≠ .loc d:=fun e=>by
      subst e
      have hm3 : ov (delL d sl) (pushS S) (.loc d) = some o':=hm'
      rw [hB] at hm3;cases hm3
    have hm2 : ov sl (pushS S) m = some o':=by rw [← hBA m hne];exact hm'
    refine .inl ⟨o',hm2,?_⟩
    refine .keep fun y hy q hq=>?_
    have h1:=AObj.cl_cls.1 (hcl m _ hm2) y hy q hq
    have hqd : q ≠ .loc d:=by
      cases e : lkS sl m with
      | some o2 =>
        have : o2 = o':=by simp only [ov,e] at hm2;exact Option.some.inj hm2
        rw [this] at e
        exact Cell.hasL_f (noL_spec hn m _ e hne y hy) hq
      | none =>
        simp only [ov,e] at hm2
        obtain ⟨a,b,rfl,h2,rfl⟩:=pushS_some hm2
        obtain ⟨z,hz,rfl⟩:=cls_map hy
        obtain ⟨n,hn,rfl⟩:=Cell.map_at hq
        intro e;cases e
    show ov (delL d sl) (pushS S) q ≠ none
    rw [hBA q hqd];exact h1
  · show lk' _ t = _ ∨ _
    simp only [lk',lkO_map]
    cases e : lkO fl t with
    | none=>exact .inl rfl
    | some v =>
      simp only [Option.map_some,Option.getD_some]
      have hv:=hs.fr t
      have hvc:=hv.cl
      have e0 : lk' fl t = v:=by simp [lk',e]
      simp only [e0] at hv hvc
      obtain ⟨hp1,hp2⟩:=fzP_at hp t v e
      cases v with
      | c x=>exact .inr (.c (fzC_frz hA hB (fun h m hm=>by show ov (delL d sl) (pushS S) m ≠ none;rw [hBA m (Cell.hasL_f h hm)];exact hvc m hm) (hp1 x rfl)))
      | agg cs =>
        refine .inr (.agg (by simp) fun i x y hx hy=>?_)
        rw [List.getElem?_map,hx,Option.map_some] at hy
        obtain rfl:=Option.some.inj hy
        have hxm:=List.mem_of_getElem? hx
        exact fzC_frz hA hB (fun h m hm=>by show ov (delL d sl) (pushS S) m ≠ none;rw [hBA m (Cell.hasL_f h hm)];exact hvc m ⟨x,hxm,hm⟩) (fzCsP_at (hp2 cs rfl) x hxm)
      | fn f cs =>
        simp only [fzV]
        cases e2 : cs.any (Cell.hasL d) with
        | true=>exact .inl rfl
        | false =>
          refine .inr (kFn fun x hx m hm=>?_)
          have:=List.any_eq_false.1 e2 x hx
          show ov (delL d sl) (pushS S) m ≠ none
          rw [hBA m (Cell.hasL_f (by simpa using this) hm)];exact hvc m ⟨x,hx,hm⟩
      | accp m n=>exact .inl rfl
      | accv m n =>
        simp only [fzV]
        cases e2 : m.isLoc d with
        | false =>
          have hmd:=Nm.isLoc_f e2
          obtain ⟨ty,k,L,ho,hn2,-⟩:=hv
          exact .inr (.accK ho (by rw [← ho];exact hBA m hmd) rfl hn2.symm)
        | true =>
          have:=Nm.isLoc_t e2
          subst this
          exact hav.imp (fun h=>h) (fun h=>h n)
      | tup xs=>exact .inl rfl

theorem aw_fz (d : Nat) {o : AObj} (h : aw P mu N ops Q l ⟨lk' (fl.map fun p=>(p.1,fzV d o (.c .junk) p.2)),ov (delL d sl) (pushS S)⟩) (hp : fzP d o fl) (hm : lkS sl (.loc d) = some o:=by exact lks) (hn : noL d sl = true:=by first | exact rfl | simp [noL,Nm.isLoc,addL,delL,ir_any]) :
    aw P mu N ops Q l ⟨lk' fl,ov sl (pushS S)⟩:=aw_weak _ (Weak.fz hm hn hp (.inl rfl)) h
theorem awp_fz (d : Nat) {o : AObj} {c : Code} (h : awp P mu N c Q ⟨lk' (fl.map fun p=>(p.1,fzV d o (.c .junk) p.2)),ov (delL d sl) (pushS S)⟩) (hp : fzP d o fl) (hm : lkS sl (.loc d) = some o:=by exact lks) (hn : noL d sl = true:=by first | exact rfl | simp [noL,Nm.isLoc,addL,delL,ir_any]) :
    awp P mu N c Q ⟨lk' fl,ov sl (pushS S)⟩:=awp_weak _ (Weak.fz hm hn hp (.inl rfl)) h
theorem fzI_av {d : Nat} {ty : TypeId} {k : IntKind} {L : List Int} (hm : lkS sl (.loc d) = some (.accI ty k L)) (n : Nat) : FrzV (ov sl (pushS S)) (ov (delL d sl) (pushS S)) (.accv (.loc d) n) (.c (.ints k L)) :=
  .accI (ov_of hm) (by simp [ov,delL_at,pushS])

theorem aw_fzI (d : Nat) {ty : TypeId} {k : IntKind} {L : List Int} (h : aw P mu N ops Q l ⟨lk' (fl.map fun p=>(p.1,fzV d (.accI ty k L) (.c (.ints k L)) p.2)),ov (delL d sl) (pushS S)⟩) (hp : fzP d (.accI ty k L) fl) (hm : lkS sl (.loc d) = some (.accI ty k L):=by exact lks) (hn : noL d sl = true:=by first | exact rfl | simp [noL,Nm.isLoc,addL,delL,ir_any]) :
    aw P mu N ops Q l ⟨lk' fl,ov sl (pushS S)⟩:=aw_weak _ (Weak.fz hm hn hp (.inr (fzI_av hm))) h
end
end Go.Abs
