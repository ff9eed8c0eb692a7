/-
  The statement that is named at its end, proved of every input.
-/
import Derived.Test.YtdbjhcgogmfghaaGreatDoorNb
import Derived.Test.YtdbjhcgogmfghaaGreatDoorNi
import Derived.Test.YtdbjhcgogmfghaaGreatDoorNj
import Derived.Test.YtdbjhcgogmfghaaGreatDoorCards
import Derived.Test.YtdbjhcgogmfghaaGreatDoorTie
import Derived.SevenTiedAt
import Derived.Carry
set_option linter.unusedVariables false
set_option linter.unusedSimpArgs false
set_option linter.unnecessarySimpa false

/-
  RecurTerms: the law's walk.
-/
-- kv2
namespace Go.Proofs
open Go Go.Abs Go.Nums
attribute [local irreducible] thenA blockA awp aw Stp EndF EndP EndN EndG EndT aOps aOpsM scopeA
set_option linter.unusedSimpArgs false
set_option linter.unusedVariables false
set_option maxHeartbeats 4000000

theorem c_reftermBad (xs ys : List (Bool × List Nat)) (n : Int) (hx : xs.length < 2 ^ 60) (hx2 : ∀ p ∈ xs,p.2.length < 2 ^ 60) (hy : ys.length < 2 ^ 60) (hy2 : ∀ p ∈ ys,p.2.length < 2 ^ 60) (hb : allR xs = false ∨ allR ys = false) :
  AFun Tryz.prog 12 [isq xs,isq ys,ivl .i64 n] (.tup [w0,ivl .i64 2]):=by
 have hr1:=c_refright xs hx hx2
 have hr2:=c_refright ys hy hy2
 refine aF (mu:=muF) Tryz.func12 fun S hS=>?_
 repeat refine gN ?_
 (refine zw ?_;refine s_call (hr1) ?_)
 cases h1 : allR xs with
 | false =>
  repeat refine gN ?_
  (refine eF hS ?_ (fl':=[(6,.c (.pim [.sc (.bool false),.ints .u64 []])),(7,ivl .i64 2)]);(repeat' (first | refine fJ ?_ ?_ | exact True.intro);all_goals (try (first | exact kvA | exact kOac | (refine kW (ov_of lks) rfl ?_ ?_)))))
 | true =>
  have h2 : allR ys = false:=by
   rcases hb with h | h
   ·rw [h1] at h;cases h
   ·exact h
  rw [h2] at hr2
  repeat refine gN ?_
  try refine stp_gT (by exact rfl) (by exact rfl) ?_
  (refine zw ?_;refine s_call (hr2) ?_)
  repeat refine gN ?_
  (refine eF hS ?_ (fl':=[(6,.c (.pim [.sc (.bool false),.ints .u64 []])),(7,ivl .i64 2)]);(repeat' (first | refine fJ ?_ ?_ | exact True.intro);all_goals (try (first | exact kvA | exact kOac | (refine kW (ov_of lks) rfl ?_ ?_)))))

theorem c_reftermE (xs ys : List (Bool × List Nat)) (n e : Int) (hx : xs.length < 2 ^ 60) (hx2 : ∀ p ∈ xs,p.2.length < 2 ^ 60) (hy : ys.length < 2 ^ 60) (hy2 : ∀ p ∈ ys,p.2.length < 2 ^ 60) (h1 : allR xs = true) (h2 : allR ys = true)
  (he : if xs.length ≠ ys.length then e = 4 else if n < 0 then e = 2 else (64 < ys.length ∨ 4096 < n)∧e = 3) :
  AFun Tryz.prog 12 [isq xs,isq ys,ivl .i64 n] (.tup [w0,ivl .i64 e]):=by
 have hU1 : (xs.map rowI).length = xs.length:=List.length_map _
 have hU2 : (ys.map rowI).length = ys.length:=List.length_map _
 have hr1:=c_refright xs hx hx2
 have hr2:=c_refright ys hy hy2
 rw [h1] at hr1
 rw [h2] at hr2
 refine aF (mu:=muF) Tryz.func12 fun S hS=>?_
 repeat refine gN ?_
 (refine zw ?_;refine s_call (hr1) ?_)
 repeat refine gN ?_
 try refine stp_gT (by exact rfl) (by exact rfl) ?_
 (refine zw ?_;refine s_call (hr2) ?_)
 repeat refine gN ?_
 rw [hU1,hU2]
 (refine zw ?_;refine s_cmp (fun g1=>?_) (fun g1=>?_))
 ·rw [if_pos (by omega)] at he
  subst he
  repeat refine gN ?_
  (refine eF hS ?_ (fl':=[(6,.c (.pim [.sc (.bool false),.ints .u64 []])),(7,ivl .i64 4)]);(repeat' (first | refine fJ ?_ ?_ | exact True.intro);all_goals (try (first | exact kvA | exact kOac | (refine kW (ov_of lks) rfl ?_ ?_)))))
 rw [if_neg (by omega)] at he
 repeat refine gN ?_
 (refine zw ?_;refine s_cmp (fun g2=>?_) (fun g2=>?_))
 ·rw [if_pos g2] at he
  subst he
  repeat refine gN ?_
  (refine eF hS ?_ (fl':=[(6,.c (.pim [.sc (.bool false),.ints .u64 []])),(7,ivl .i64 2)]);(repeat' (first | refine fJ ?_ ?_ | exact True.intro);all_goals (try (first | exact kvA | exact kOac | (refine kW (ov_of lks) rfl ?_ ?_)))))
 rw [if_neg g2] at he
 obtain ⟨h3,rfl⟩:=he
 repeat refine gN ?_
 rw [hU2]
 (refine zw ?_;refine s_cmp (fun g3=>?_) (fun g3=>?_))
 ·repeat refine gN ?_
  (refine eF hS ?_ (fl':=[(6,.c (.pim [.sc (.bool false),.ints .u64 []])),(7,ivl .i64 3)]);(repeat' (first | refine fJ ?_ ?_ | exact True.intro);all_goals (try (first | exact kvA | exact kOac | (refine kW (ov_of lks) rfl ?_ ?_)))))
 repeat refine gN ?_
 refine s_cmp (fun g4=>?_) (fun g4=>?_)
 ·repeat refine gN ?_
  (refine eF hS ?_ (fl':=[(6,.c (.pim [.sc (.bool false),.ints .u64 []])),(7,ivl .i64 3)]);(repeat' (first | refine fJ ?_ ?_ | exact True.intro);all_goals (try (first | exact kvA | exact kOac | (refine kW (ov_of lks) rfl ?_ ?_)))))
 ·exact absurd h3 (by omega)

theorem right_zp {p : Bool × List Nat} (hr : rng B p.2) (h : rightB p.1 p.2 = true) : zp (sg p.1 (val B p.2)) = p∧p.2.length ≤ 4096:=by
 obtain ⟨s,l⟩:=p
 unfold rightB at h
 split at h
 ·rename_i h0
  have:=List.eq_nil_of_length_eq_zero h0
  subst this
  have : s = false:=by cases s <;> simp at h ⊢
  subst this
  refine ⟨?_,by simp⟩
  show (decide (sg false (val B []) < 0),digs B (sg false (val B [])).natAbs) = _
  simp [sg,val,digs_zero]
 ·rename_i h0
  simp only [decide_eq_true_eq] at h
  have hne : l ≠ []:=fun q=>h0 (by rw [q];rfl)
  have hd : digs B (val B l) = l:=digs_val hB hr (fun _=>by rw [getLast_getD hne];exact h.2)
  have hv : val B l ≠ 0:=fun q=>hne (by rw [← hd,q,digs_zero])
  refine ⟨?_,h.1⟩
  have e : (sg s (val B l)).natAbs = val B l:=sg_abs _ _
  have e2 : decide (sg s (val B l) < 0) = s:=by
   cases s
   ·exact decide_eq_false (by simp [sg])
   ·exact decide_eq_true (by simp [sg];omega)
  show (decide (sg s (val B l) < 0),digs B (sg s (val B l)).natAbs) = (s,l)
  rw [e,e2,hd]
theorem allR_zs {xs : List (Bool × List Nat)} (hr : ∀ p ∈ xs,rng B p.2) (h : allR xs = true) : ∃ ns : List Int,xs = ns.map zp∧lims 4096 ns:=by
 refine ⟨xs.map fun p=>sg p.1 (val B p.2),?_,fun x hx=>?_⟩
 ·rw [List.map_map]
  conv=>lhs;rw [← List.map_id xs]
  exact List.map_congr_left fun p hp=>((right_zp (hr p hp) (List.all_eq_true.1 h p hp)).1).symm
 ·obtain ⟨p,hp,rfl⟩:=List.mem_map.1 hx
  have h1:=right_zp (hr p hp) (List.all_eq_true.1 h p hp)
  have h2 : digs B (sg p.1 (val B p.2)).natAbs = p.2:=congrArg Prod.snd h1.1
  rw [h2]
  exact h1.2

theorem extN_lims {b : List Int} : ∀ {k : Nat} {l r : List Int},lims 4096 l→extN b k l = some r→lims 4096 r
 | 0,l,r,h,e=>by rw [← Option.some.inj (show some l = some r from e)];exact h
 | k + 1,l,r,h,e=>by
  rw [extN] at e
  split at e
  ·cases e
  ·rename_i g
   refine extN_lims (fun x hx=>?_) e
   rcases List.mem_append.1 hx with q | q
   ·exact h x q
   ·rw [List.mem_singleton.1 q]
    exact len_of_blen (by omega)
theorem extN_nil : ∀ (k : Nat) (l : List Int),extN [] k l = some (exl [] k l)
 | 0,l=>rfl
 | k + 1,l=>by
  have h0 : dotR [] l = 0:=rfl
  have:=(blen_le 0 0).2 (by decide)
  rw [extN,h0,if_neg (by simp;omega),extN_nil k]
  rfl

theorem term_pair (xs ys : List (Bool × List Nat)) (n : Int) (hx : xs.length < 2 ^ 43) (hx2 : ∀ p ∈ xs,p.2.length < 2 ^ 60) (hxr : ∀ p ∈ xs,rng B p.2) (hy : ys.length < 2 ^ 43) (hy2 : ∀ p ∈ ys,p.2.length < 2 ^ 60) (hyr : ∀ p ∈ ys,rng B p.2) :
  ∃ (s : Bool) (l : List Nat) (e : Int),l.length < 2 ^ 60∧AFun Tryz.prog 11 [isq xs,isq ys,ivl .i64 n] (.tup [wi s l,ivl .i64 e])∧AFun Tryz.prog 12 [isq xs,isq ys,ivl .i64 n] (.tup [wi s l,ivl .i64 e]):=by
 cases h1 : allR xs with
 | false=>exact ⟨false,[],2,by decide,c_termBad xs ys n hx hx2 hy hy2 (.inl h1),c_reftermBad xs ys n (by omega) hx2 (by omega) hy2 (.inl h1)⟩
 | true =>
 cases h2 : allR ys with
 | false=>exact ⟨false,[],2,by decide,c_termBad xs ys n hx hx2 hy hy2 (.inr h2),c_reftermBad xs ys n (by omega) hx2 (by omega) hy2 (.inr h2)⟩
 | true =>
 by_cases h3 : xs.length = ys.length
 rotate_left
 ·exact ⟨false,[],4,by decide,c_termShape xs ys n hx hx2 hy hy2 h1 h2 h3,c_reftermE xs ys n 4 (by omega) hx2 (by omega) hy2 h1 h2 (by rw [if_pos h3])⟩
 by_cases h4 : n < 0
 ·exact ⟨false,[],2,by decide,c_termNeg xs ys n hx hx2 hy hy2 h1 h2 h3 h4,c_reftermE xs ys n 2 (by omega) hx2 (by omega) hy2 h1 h2 (by rw [if_neg (fun h=>h h3),if_pos h4])⟩
 by_cases h5 : 64 < ys.length ∨ 4096 < n
 ·exact ⟨false,[],3,by decide,c_termLong xs ys n hx hx2 hy hy2 h1 h2 h3 h4 h5,c_reftermE xs ys n 3 (by omega) hx2 (by omega) hy2 h1 h2 (by rw [if_neg (fun h=>h h3),if_neg h4];exact ⟨h5,rfl⟩)⟩
 obtain ⟨m,rfl⟩ : ∃ m : Nat,n = (m : Int):=⟨n.toNat,by omega⟩
 obtain ⟨ns,rfl,ln⟩:=allR_zs hxr h1
 obtain ⟨bs,rfl,lb⟩:=allR_zs hyr h2
 rw [List.length_map,List.length_map] at h3
 rw [List.length_map] at h5
 by_cases h0 : 0 < bs.length
 ·cases hE : extN bs (m + 1 - ns.length) ns with
  | none =>
   exact ⟨false,[],3,by decide,c_term ns bs m _ (by simp [nm0,AVal.at,AVal.at1,Cell.at]) h3 h0 (by omega) (by omega) ln lb h1 h2 (by rw [hE];rfl),c_refterm ns bs m _ (by simp [nm0,AVal.at,AVal.at1,Cell.at]) h3 (by omega) (by omega) ln lb (by rw [hE];rfl)⟩
  | some l =>
   refine ⟨decide (l.getD m 0 < 0),digs B (l.getD m 0).natAbs,0,?_,c_term ns bs m _ (by simp [nm0,AVal.at,AVal.at1,Cell.at]) h3 h0 (by omega) (by omega) ln lb h1 h2 (by rw [hE]),c_refterm ns bs m _ (by simp [nm0,AVal.at,AVal.at1,Cell.at]) h3 (by omega) (by omega) ln lb (by rw [hE])⟩
   have:=lims_get (extN_lims ln hE) m
   omega
 ·have e1 : bs = []:=List.eq_nil_of_length_eq_zero (by omega)
  have e2 : ns = []:=List.eq_nil_of_length_eq_zero (by omega)
  subst e1
  subst e2
  have hw : wz 0 = w0:=by
   show wi (decide ((0 : Int) < 0)) (digs B 0) = w0
   rw [digs_zero];rfl
  have hz : (exl [] (m + 1) []).getD m 0 = 0:=by
   rw [show (exl [] (m + 1) []).getD m 0 = rowA [] [] m from rfl,rowA_rule (b:=[]) (f:=[]) rfl m (Nat.zero_le _)];rfl
  refine ⟨false,[],0,by decide,c_termNil [] [] m (by decide) (fun p hp=>by cases hp) (by decide) (fun p hp=>by cases hp) rfl rfl rfl (by omega) (by simp at h5 ⊢;omega) rfl,?_⟩
  exact c_refterm [] [] m _ (by simp [nm0,AVal.at,AVal.at1,Cell.at]) rfl (by decide) (by omega) ln lb (by
   rw [show m + 1 - ([] : List Int).length = m + 1 from rfl,extN_nil]
   show _ = _
   rw [hz,hw];rfl)

theorem lentLe (xs : List (Bool × List Nat)) : ALe (lentQ xs) (isq xs):=by
 refine .inr (.inr (.inr (.inr (.inl ⟨2,_,_,_,rfl,by rw [lentR_len];omega,rfl,?_⟩))))
 have e : (lentR xs 12).take xs.length = xs.map lentL:=by rw [lentR,List.take_left' (by rw [List.length_map])]
 rw [e]
 refine ⟨by rw [List.length_map,List.length_map],fun i c c' h1 h2=>?_⟩
 rw [List.getElem?_map] at h1 h2
 cases hp : xs[i]? with
 | none=>rw [hp] at h1;cases h1
 | some p =>
  rw [hp] at h1 h2
  cases h1
  cases h2
  refine ⟨rfl,fun j x y hx hy=>?_⟩
  match j with
  | 0=>cases hx;cases hy;exact .inl rfl
  | 1 =>
   cases hx
   cases hy
   refine .inr (.inr (.inl ⟨.u64,U (p.2 ++ mks 12),p.2.length,rfl,by rw [U_len];simp,?_⟩))
   simp [U]
  | j + 2=>cases hx

theorem limbF_le : ∀ (xs : List (Bool × List Nat)) (n : Nat),(∀ p ∈ xs,p.2.length < 2 ^ 60)→n ≤ 2 ^ 60 + 401→limbF xs n ≤ 2 ^ 60 + 401
 | [],n,_,h=>h
 | p :: xs,n,hx,h=>by
  have:=hx p List.mem_cons_self
  rw [limbF]
  split
  ·exact limbF_le xs _ (fun q hq=>hx q (List.mem_cons_of_mem _ hq)) (by omega)
  ·exact h

theorem l_terms (xs ys : List (Bool × List Nat)) (n : Int) (hx : xs.length ≤ 4398046510976) (hx2 : ∀ p ∈ xs,p.2.length ≤ 17592186043904) (hxr : ∀ p ∈ xs,rng B p.2) (hy : ys.length ≤ 4398046510976) (hy2 : ∀ p ∈ ys,p.2.length ≤ 17592186043904) (hyr : ∀ p ∈ ys,rng B p.2) :
  AFun Tryz.prog 3 [isq xs,isq ys,ivl .i64 n] (bvl true):=by
 have hx3 : ∀ p ∈ xs,p.2.length < 2 ^ 60:=fun p hp=>by have:=hx2 p hp;omega
 have hy3 : ∀ p ∈ ys,p.2.length < 2 ^ 60:=fun p hp=>by have:=hy2 p hp;omega
 have hU2 : (ys.map rowI).length = ys.length:=List.length_map _
 obtain ⟨s,l,e,hl,hT1,hT2⟩:=term_pair xs ys n (by omega) hx3 hxr (by omega) hy3 hyr
 have hIs : AFun Tryz.prog 13 [wi s l,ivl .i64 e,wi s l,ivl .i64 e] (bvl true):=by
  have:=c_lawis s s l l e e hl hl
  rw [decide_eq_true (show _∧_∧_ from ⟨rfl,rfl,rfl⟩)] at this
  exact this
 have hl1:=c_limbs25 xs (by omega) hx3
 have hl2:=c_limbs25 ys (by omega) hy3
 obtain ⟨a,ha⟩ : ∃ a,a = limbF xs 0:=⟨_,rfl⟩
 obtain ⟨b,hb⟩ : ∃ b,b = limbF ys 0:=⟨_,rfl⟩
 rw [← ha] at hl1
 rw [← hb] at hl2
 have hab : a ≤ 2 ^ 60 + 401∧b ≤ 2 ^ 60 + 401:=by
  rw [ha,hb]
  exact ⟨limbF_le xs 0 hx3 (by omega),limbF_le ys 0 hy3 (by omega)⟩
 refine aF (mu:=muF) Tryz.func3 fun S hS=>?_
 iterate 6 refine gN ?_
 refine awp_mid (fun st=>Weak st ⟨lk' [(0,isq xs),(1,isq ys),(2,ivl .i64 n)],ov [] (pushS S)⟩) ?_ ?_
 ·repeat refine gN ?_
  (refine zw ?_;refine s_call (hl1) ?_)
  repeat refine gN ?_
  (refine zw ?_;refine s_call (hl2) ?_)
  repeat refine gN ?_
  (refine zw ?_;refine s_cmp (fun g1=>?_) (fun g1=>?_))
  ·repeat refine gN ?_
   rw [hU2]
   refine s_cmp (fun g2=>?_) (fun g2=>?_)
   ·repeat refine gN ?_
    (refine zw ?_;refine s_call (c_awakeR) ?_)
    repeat refine gN ?_
    (refine eF hS ?_ (fl':=[(6,bvl true)]);(repeat' (first | refine fJ ?_ ?_ | exact True.intro);all_goals (try (first | exact kvA | exact kOac | (refine kW (ov_of lks) rfl ?_ ?_)))))
   repeat refine gN ?_
   refine s_cmp (fun g3=>?_) (fun g3=>?_)
   ·repeat refine gN ?_
    refine s_cmp (fun g4=>?_) (fun g4=>?_)
    ·repeat refine gN ?_
     (refine zw ?_;refine s_call (c_awakeR) ?_)
     repeat refine gN ?_
     (refine eF hS ?_ (fl':=[(6,bvl true)]);(repeat' (first | refine fJ ?_ ?_ | exact True.intro);all_goals (try (first | exact kvA | exact kOac | (refine kW (ov_of lks) rfl ?_ ?_)))))
    ·repeat refine gN ?_
     (refine fz hS ?_ ?_;all_goals (repeat' (first | refine fJ ?_ ?_ | exact True.intro));all_goals (try (first | exact kvA | exact kOac | (refine kW (ov_of lks) rfl ?_ ?_))))
   ·repeat refine gN ?_
    (refine fz hS ?_ ?_;all_goals (repeat' (first | refine fJ ?_ ?_ | exact True.intro));all_goals (try (first | exact kvA | exact kOac | (refine kW (ov_of lks) rfl ?_ ?_))))
  repeat refine gN ?_
  refine s_cmp (fun g3=>?_) (fun g3=>?_)
  ·repeat refine gN ?_
   refine s_cmp (fun g4=>?_) (fun g4=>?_)
   ·repeat refine gN ?_
    (refine zw ?_;refine s_call (c_awakeR) ?_)
    repeat refine gN ?_
    (refine eF hS ?_ (fl':=[(6,bvl true)]);(repeat' (first | refine fJ ?_ ?_ | exact True.intro);all_goals (try (first | exact kvA | exact kOac | (refine kW (ov_of lks) rfl ?_ ?_)))))
   ·repeat refine gN ?_
    (refine fz hS ?_ ?_;all_goals (repeat' (first | refine fJ ?_ ?_ | exact True.intro));all_goals (try (first | exact kvA | exact kOac | (refine kW (ov_of lks) rfl ?_ ?_))))
  ·repeat refine gN ?_
   (refine fz hS ?_ ?_;all_goals (repeat' (first | refine fJ ?_ ?_ | exact True.intro));all_goals (try (first | exact kvA | exact kOac | (refine kW (ov_of lks) rfl ?_ ?_))))
 intro st hst
 refine awp_weak _ hst ?_
 clear hst st
 repeat refine gN ?_
 (refine zw ?_;refine s_call (c_lentwholes xs hx hx2) ?_)
 repeat refine gN ?_
 (refine zw ?_;refine s_call (c_lentwholes ys hy hy2) ?_)
 repeat refine gN ?_
 refine zw1 (s_call hT1 ?_ (hle:=by exact ⟨lentLe xs,lentLe ys,ALe.refl _,trivial⟩))
 repeat refine gN ?_
 (refine zw ?_;refine s_call (hT2) ?_)
 repeat refine gN ?_
 (refine zw ?_;refine s_call (hIs) ?_)
 repeat refine gN ?_
 try refine stp_gT (by exact rfl) (by exact rfl) ?_
 (refine zw ?_;refine s_call (c_keptwholes xs (by omega) hx3) ?_)
 repeat refine gN ?_
 try refine stp_gT (by exact rfl) (by exact rfl) ?_
 (refine zw ?_;refine s_call (c_keptwholes ys (by omega) hy3) ?_)
 repeat refine gN ?_
 try refine stp_gT (by exact rfl) (by exact rfl) ?_
 (refine zw ?_;refine s_call (c_awakeR) ?_)
 repeat refine gN ?_
 (refine eF hS ?_ (fl':=[(6,bvl true)]);(repeat' (first | refine fJ ?_ ?_ | exact True.intro);all_goals (try (first | exact kvA | exact kOac | (refine kW (ov_of lks) rfl ?_ ?_)))))
end Go.Proofs

/-
  RecurTerms is true of every input, where math/bits.deBruijn64tab holds what the program's text lays (the card ties it).
-/
namespace Go.Proofs.YtdbjhcgogmfghaaGreatDoor
open Go Go.Abs Go.Nums Go.Proofs
open Go.ChangeShapes Go.WideShapes Go.ChangeAt Go.RowKit Go.Joins

set_option maxRecDepth 100000 in
theorem recurTerms_lifted (os : Os) (started : os.Started) (H : Type) (enc : TypeId × Value→H) :
  ReturnsInHanded {} Tryz.checked os 3 .any (fun w args=>(Rows.recurTermsSpec.pre enc Tryz.prog Tryz.f3 Rows.recurTermsRow.domain false w args∧laidMetH Tryz.prog laidT w)∧sizedMet enc Tryz.prog Tryz.f3 (OpenSpec.ofChange Rows.recurTermsSpec) false w args)
   (Rows.recurTermsSpec.post enc Tryz.prog Tryz.f3 false true false false):=by
 refine returnsInHanded_of_change_and (C:=Tryz.checked) (X:=fun w _=>laidMetH Tryz.prog laidT w) (fun _ _ _ hh h=>h.of_heap hh) own started (by kernel_rfl) Tryz.func3
  (ChangeSpec.witness_shaped (enc:=enc) (C:=Tryz.checked) (os:=os) (X:=fun w _=>laidMetH Tryz.prog laidT w) false (World.doorLaid Tryz.prog 14 os) #[.slice none 0 0,.slice none 0 0,.int .i64 0] 8 rfl (World.shaped_of_RefB (by kernel_rfl) (by kernel_rfl)) (by kernel_rfl) (by kernel_rfl) (by kernel_rfl) (door_met os _)) ?_
 intro W base args ds gs before hval0 hW _ hsz hLaid _
 have hval : ∀ (j : Nat) t v,Tryz.f3.params[j]? = some t→args[j]? = some v→Value.okWide Tryz.prog W .any base t v:=hval0
 have hW':=hW
 obtain ⟨p,q,hA0,hV,rfl,_,_⟩:=hW
 have hA : DataW.TrodAll enc Tryz.prog W 0 (fun _=>true) true Tryz.f3.params.toList args.toList ds p:=hA0
 rw [Tryz.params3] at hA hval
 obtain ⟨v0,vs0,d0,ds0,p0,q0,hargs,rfl,rfl,h0,t0⟩:=trodAll_cons hA
 obtain ⟨v1,vs1,d1,ds1,p1,q1,rfl,rfl,rfl,h1,t1⟩:=trodAll_cons t0
 obtain ⟨v2,vs2,d2,ds2,p2,q2,rfl,rfl,rfl,h2,t2⟩:=trodAll_cons t1
 obtain ⟨rfl,rfl,rfl⟩:=trodAll_nil t2
 obtain rfl : args = #[v0,v1,v2]:=by cases args;simp_all
 obtain ⟨rfl,rfl⟩:=trodVars_none hV
 clear hA0 hval0
 simp only [List.append_nil] at hW'
 have hlt : ∀ x ∈ p0 ++ (p1 ++ p2),x.block < W.heap.size:=fun x hx=>by simpa using hW'.lt x hx
 have hargs' : ∀ (W' : World),Below W.heap.size W W'→DataW.TrodAll enc Tryz.prog W' 0 (fun b=>decide (b < W.heap.size)) true [22,22,2] [v0,v1,v2] [d0,d1,d2] (p0 ++ (p1 ++ p2)):=fun W' hn =>
  trodAll_mk3 (Below.trod laidOut (by kernel_rfl) (of_decide_eq_true (by kernel_rfl)) h0 hn fun x hx=>hlt x (by simp [hx])) (Below.trod laidOut (by kernel_rfl) (of_decide_eq_true (by kernel_rfl)) h1 hn fun x hx=>hlt x (by simp [hx])) (Below.trod laidOut (by kernel_rfl) (of_decide_eq_true (by kernel_rfl)) h2 hn fun x hx=>hlt x (by simp [hx]))
 obtain ⟨l0,hr0,hl0,hk0,a0⟩:=wholes_in (hval 0 22 v0 rfl rfl) h0 (fun n hn=>by simpa using List.all_eq_true.1 hsz _ (DataW.weights_mem_each (j:=0) rfl rfl n hn))
 obtain ⟨l1,hr1,hl1,hk1,a1⟩:=wholes_in (hval 1 22 v1 rfl rfl) h1 (fun n hn=>by simpa using List.all_eq_true.1 hsz _ (DataW.weights_mem_each (j:=1) rfl rfl n hn))
 obtain ⟨n2,rfl,rfl,rfl,wn2⟩:=open_int Tryz.underlying2 (hval 2 2 v2 rfl rfl) h2
 refine (calls_top (l_terms l0 l1 n2 hl0 hk0 hr0 hl1 hk1 hr1) Tryz.func3 rfl (by decide) W (of_laid hLaid) #[v0,v1,.int .i64 n2] (vss_cons a0 (vss_cons a1 (vss_cons vs_int vss_nil)))).mono fun e W'=>?_
 rintro ⟨rfl,hn⟩
 exact ⟨_,rfl,⟨_,_,_,[],_,[],hW',trodAll_mk1 (shut_bool Tryz.underlying4 true),hargs' _ hn,rfl,hn.frame _,fun h=>by cases h⟩⟩

theorem recurTerms_said : Rows.RecurTermsSaid :=
 OpenClaim.holds_of_wide 3 Tryz.f3 rfl rfl rfl rfl rfl rfl rfl ⟨rfl,rfl,rfl,rfl,rfl⟩ rfl rfl rfl rfl rfl (by kernel_rfl) Tryz.func3 (by kernel_rfl)
  (of_decide_eq_true (by kernel_rfl)) (by unfold Func.isWrapper;rw [if_neg (of_decide_eq_false (by kernel_rfl))];exact ⟨rfl,rfl⟩)
  (fun os started H enc _=>recurTerms_lifted os started H enc)

theorem recurTerms_holds : Rows.RecurTermsCardSaid :=
 Claim7.holds_tied_plain_at .later [] [.data] true (true,"b9d768366b2b2be78be207a966b7a006ce7c5eb75ed894847f6082fba0b5f2bc") false
  recurTerms_said (fun _ h=>by cases h) (by kernel_rfl) (fun _ h=>by cases h) recurTerms_row_tie rfl ⟨rfl,rfl⟩ (by kernel_rfl) rfl
  (fun f fn hf hfn=>by
   obtain rfl : f = 3:=Option.some.inj ((show Tryz.prog.funcNamed "rosette/rosettelaw25.RecurTerms" = some 3 by kernel_rfl).symm.trans hf) |>.symm
   obtain rfl : fn = Tryz.f3:=(Option.some.inj (Tryz.func3.symm.trans hfn)).symm
   exact ⟨by kernel_rfl,fun j t ht=>by
    rw [Tryz.params3] at ht
    have hm : t ∈ [22,22,2]:=by simpa using Array.mem_of_getElem? ht
    have hall : ([22,22,2].all fun u=>!Tryz.prog.wantsStandIn u) = true:=by kernel_rfl
    exact (show Tryz.prog.wantsStandIn t = false by simpa using List.all_eq_true.1 hall t hm)⟩)
  (by kernel_rfl)
end Go.Proofs.YtdbjhcgogmfghaaGreatDoor
