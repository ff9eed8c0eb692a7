/-
  An abstract machine for this program, and contracts of its functions: part Mak (no statement by itself).
-/
import Derived.Test.YtdbjhcgogmfghaaGreatDoorMaj
import Derived.Test.YtdbjhcgogmfghaaGreatDoorMai
import Derived.Test.YtdbjhcgogmfghaaGreatDoorMag
set_option linter.unusedVariables false
set_option linter.unusedSimpArgs false
set_option linter.unnecessarySimpa false

/-
  big: over.
-/
namespace Go.Proofs
open Go Go.Abs Go.Nums
attribute [local irreducible] thenA blockA awp aw Stp EndF EndP EndN EndG aOps
set_option linter.unusedSimpArgs false
set_option maxHeartbeats 4000000

theorem digs_single {q : Nat} (h : (digs B q).length = 1) : digs B q = [q]∧q < B:=by
  match e : digs B q,h with
  | [x],_ =>
    have hv:=val_digs hB q
    rw [e] at hv
    have hx : x = q:=by simpa [val] using hv
    subst hx
    have:=rng_digs hB x
    rw [e] at this
    exact ⟨rfl,this x (by simp)⟩

theorem over_step (b at_ m D : Nat) {p w r : List Nat} (hb : 0 < b) (hp : rng b p) (hpl : p.length = at_) (hwl : w.length = m + 1) (hD : D < b ^ m) (hlt : val b (p ++ w ++ r) < D * b ^ (at_ + 1)) : val b r = 0∧val b w < D * b:=by
  rw [val_append,val_append,hpl] at hlt
  have hl : (p ++ w).length = at_ + (m + 1):=by simp [hpl,hwl]
  rw [hl] at hlt
  have hr : val b r = 0:=by
    refine Nat.eq_zero_of_not_pos fun h=>?_
    have h1 : b ^ (at_ + (m + 1)) ≤ b ^ (at_ + (m + 1)) * val b r:=Nat.le_mul_of_pos_right _ h
    have h2 : D * b ^ (at_ + 1) < b ^ m * b ^ (at_ + 1):=Nat.mul_lt_mul_of_pos_right hD (Nat.pow_pos hb)
    rw [← Nat.pow_add,show m + (at_ + 1) = at_ + (m + 1) by omega] at h2
    omega
  refine ⟨hr,?_⟩
  rw [hr,Nat.mul_zero,Nat.add_zero,Nat.pow_succ,Nat.mul_left_comm] at hlt
  have : b ^ at_ * val b w < b ^ at_ * (D * b):=by omega
  exact Nat.lt_of_mul_lt_mul_left this

theorem c_over (p q : Nat) (hq0 : 0 < q) (hp : (digs B p).length < 2 ^ 37) (hq : (digs B q).length < 2 ^ 37) : AFun Tryz.prog 145 [us (digs B p),us (digs B q)] (.tup [us (digs B (p / q)),us (digs B (p % q))]):=by
  refine aF (mu:=muF) Tryz.func145 fun S hS=>?_
  have hlp:=U_len (digs B p)
  have hlq:=U_len (digs B q)
  have hlq0 : 0 < (digs B q).length:=Nat.pos_of_ne_zero fun h=>by have:=(digs_nil hB).1 (List.eq_nil_of_length_eq_zero h);omega
  repeat refine gO ?_
  (refine zw ?_;refine s_call (c_compare p q (by omega) (by omega)) ?_)
  (refine zw ?_;refine s_cmp (fun h1=>?_) (fun h1=>?_))
  · have hlt : p < q:=by
      have:=mt (cmpN_ge p q).2 (by omega);omega
    repeat refine gO ?_
    (refine zw ?_;refine s_intsA ttOk ?_)
    repeat refine gO ?_
    (refine zw ?_;refine s_app8 ttOk (Y:=U (digs B p)) srcE_ints ?_ ?_;(· simp only [List.length_append,List.length_nil,List.length_cons] at *;omega))
    repeat refine gO ?_
    (refine eF hS ?_ (fl':=[(4,us (digs B (p / q))),(5,us (digs B (p % q)))]);(repeat' (first | refine fJ ?_ ?_ | exact True.intro);all_goals (try (first | exact kv | (refine kW (ov_of lks) rfl ?_ ?_)))))
    · rw [Nat.div_eq_of_lt hlt,digs_zero];exact kJ
    · exact kAcc (ov_of lks) rfl (by rw [Nat.mod_eq_of_lt hlt];rfl)
  have hge : q ≤ p:=(cmpN_ge p q).1 (by omega)
  repeat refine gO ?_
  (refine zw ?_;refine s_cmp (fun h2=>?_) (fun h2=>?_))
  · obtain ⟨hs1,hs2⟩:=digs_single (q:=q) (by omega)
    repeat refine gO ?_
    rw [show (U (digs B q)).getD (Int.toNat 0) 0 = (q : Int) by rw [hs1];rfl]
    (refine zw ?_;refine s_call (c_short p q (by omega) hq0 hs2) ?_)
    repeat refine gO ?_
    ((first | refine aw_fz 35 ?_ ?_ | refine awp_fz 35 ?_ ?_);rotate_left;· (repeat' (first | exact True.intro | refine And.intro ?_ ?_)) <;> first | (show _ ≤ _;simp;done) | (show _ ≤ _;simp;omega) | (show _ ≤ _;omega))
    have hr : p % q < 18446744073709551616:=Nat.lt_trans (Nat.mod_lt _ hq0) hs2
    have hc:=c_trim [p % q] (rng1 hr) (by simp)
    rw [show val B [p % q] = p % q by simp [val]] at hc
    (refine zw ?_;refine s_call (hc) ?_)
    repeat refine gO ?_
    (refine eF hS ?_ (fl':=[(4,us (digs B (p / q))),(5,us (digs B (p % q)))]);(repeat' (first | refine fJ ?_ ?_ | exact True.intro);all_goals (try (first | exact kv | (refine kW (ov_of lks) rfl ?_ ?_)))))
  repeat refine gO ?_
  obtain ⟨la,hla⟩ : ∃ la,la = (digs B p).length:=⟨_,rfl⟩
  obtain ⟨m,hm⟩ : ∃ m,m = (digs B q).length:=⟨_,rfl⟩
  obtain ⟨vt,hvt⟩ : ∃ vt,vt = (digs B q).getD (m - 1) 0:=⟨_,rfl⟩
  rw [show ((((U (digs B q)).length : Int) - 1).toNat) = m - 1 by omega,U_get,← hvt]
  have hvt64 : vt < B:=by rw [hvt];exact getD_lt (by decide) (rng_digs hB q) _
  have hvt0 : vt ≠ 0:=by
    have hne : digs B q ≠ []:=fun h=>by rw [h] at hlq0;simp at hlq0
    have:=digs_top hB hne
    rw [getLast_getD hne,← hm,← hvt] at this;exact this
  (refine zw ?_;refine s_call (c_lz64 vt hvt64) ?_)
  have hb64 : blen vt ≤ 64:=(blen_le vt 64).2 hvt64
  have hb0 : 1 ≤ blen vt:=by
    rcases Nat.eq_zero_or_pos (blen vt) with h | h
    · have:=(blen_le vt 0).1 (by omega);omega
    · exact h
  have hbl : vt < 2 ^ blen vt:=(blen_le vt (blen vt)).1 (Nat.le_refl _)
  obtain ⟨n,hn⟩ : ∃ n,n = 64 - blen vt:=⟨_,rfl⟩
  rw [← hn]
  have hn64 : n < 64:=by omega
  have h2n : 0 < 2 ^ n:=Nat.two_pow_pos n
  obtain ⟨D,hD⟩ : ∃ D,D = q * 2 ^ n:=⟨_,rfl⟩
  obtain ⟨P,hP⟩ : ∃ P,P = p * 2 ^ n:=⟨_,rfl⟩
  have hDq : q ≤ D:=by rw [hD];exact Nat.le_mul_of_pos_right _ h2n
  have hPp : p ≤ P:=by rw [hP];exact Nat.le_mul_of_pos_right _ h2n
  have hDlt : D < B ^ m:=by
    have e1:=val_last B (w:=digs B q) (m:=m - 1) (by omega)
    rw [val_digs hB,← hvt] at e1
    have e2 : val B ((digs B q).take (m - 1)) < B ^ (m - 1):=val_take_lt (rng_digs hB q) (by omega)
    have e3 : q < B ^ (m - 1) * (vt + 1):=by rw [Nat.mul_add];omega
    have e4 : q * 2 ^ n < B ^ (m - 1) * (vt + 1) * 2 ^ n:=Nat.mul_lt_mul_of_pos_right e3 h2n
    have e5 : (vt + 1) * 2 ^ n ≤ 2 ^ blen vt * 2 ^ n:=Nat.mul_le_mul_right _ hbl
    rw [← Nat.pow_add,show blen vt + n = 64 by omega] at e5
    have e6 : B ^ (m - 1) * ((vt + 1) * 2 ^ n) ≤ B ^ (m - 1) * 2 ^ 64:=Nat.mul_le_mul_left _ e5
    rw [show B ^ (m - 1) * 2 ^ 64 = B ^ m by rw [show (2 : Nat) ^ 64 = B from rfl,← Nat.pow_succ];congr 1;omega] at e6
    rw [hD]
    rw [Nat.mul_assoc] at e4
    omega
  have hDl : (digs B D).length = m:=Nat.le_antisymm ((digs_len hB).2 hDlt) (by rw [hm];exact len_mono hB hDq)
  have hPlt : P < B ^ (la + 1):=by
    have e1:=digs_lt hB p
    rw [← hla] at e1
    have e2 : p * 2 ^ n < B ^ la * 2 ^ n:=Nat.mul_lt_mul_of_pos_right e1 h2n
    have e3 : B ^ la * 2 ^ n ≤ B ^ la * B:=Nat.mul_le_mul_left _ (by rw [show B = 2 ^ 64 from rfl];exact Nat.pow_le_pow_right (by decide) (by omega))
    rw [Nat.pow_succ,hP];omega
  obtain ⟨k,hk⟩ : ∃ k,k = (digs B P).length:=⟨_,rfl⟩
  have hk1 : k ≤ la + 1:=by rw [hk];exact (digs_len hB).2 hPlt
  have hk2 : la ≤ k:=by rw [hla,hk];exact len_mono hB hPp
  have hml : m ≤ la:=by rw [hm,hla];exact len_mono hB hge
  repeat refine gO ?_
  (refine zw ?_;refine s_call (c_left q n (by omega) (by omega)) ?_)
  repeat refine gO ?_
  rw [← hD]
  (refine zw ?_;refine s_made (c_leftW p n (by omega) (by omega) hn64) ?_)
  rw [← hP,← hla,← hk]
  repeat refine gO ?_
  refine aw_appOwn ttOk (q:=50) (Y:=[0,0]) (len:=k) (cm:=la + 1) ?_ ?_ ⟨by omega,?_,by simp,by simp;omega⟩
  rotate_left
  · exact srcE_win (L:=[0,0]) lks (by simp)
  · rw [U_len,len_padd hPlt];exact hk1
  have hpad : (U (padd (la + 1) P)).take k ++ [0,0] = U (digs B P ++ [0,0]):=by
    rw [U_take,padd,hk,List.take_left];simp [U]
  rw [hpad]
  have hU2:=U_len (digs B P ++ [0,0])
  have hL2 : (digs B P ++ [0,0]).length = k + 2:=by simp [hk]
  repeat refine gO ?_
  have e1 : (((U (digs B p)).length : Int) + 1).toNat - 0 = la + 1:=by omega
  have e2 : (((U (digs B p)).length : Int) - ((U (digs B q)).length : Int) + 1).toNat = la - m + 1:=by omega
  have hvP : val B (digs B P ++ [0,0]) = P:=by rw [val_append,val_digs hB];simp [val]
  refine awp_midB (fun st=>∃ o ou : List Nat,Weak st ⟨lk' [(8,uv n),(10,.c (.win (.loc 52) 0 (la + 1) (k + 2))),(11,.c (.win (.loc 63) 0 (la - m + 1) (la - m + 1)))],ov [(.loc 52,oi o),(.loc 63,oi ou)] (pushS S)⟩ ∧
    o.length = k + 2∧rng B o∧ou.length = la - m + 1∧rng B ou∧val B ou * D + val B o = P∧val B o < D) ?_ ?_
  · refine awp_rep3 (fun (j : Nat) (o ou : List Nat)=>⟨lk' [(8,uv n),(9,us (digs B D)),(10,.c (.win (.loc 52) 0 (la + 1) (k + 2))),(11,.c (.win (.loc 63) 0 (la - m + 1) (la - m + 1))),(12,ivl .i64 ((j : Int) - 1))],ov [(.loc 52,oi o),(.loc 63,oi ou)] (pushS S)⟩)
      (fun j o ou=>j ≤ la - m + 1∧o.length = k + 2∧rng B o∧ou.length = la - m + 1∧rng B ou∧B ^ j * val B (ou.drop j) * D + val B o = P∧val B o < D * B ^ j) (fun j _ _=>j)
      (la - m + 1) (digs B P ++ [0,0]) (List.replicate (la - m + 1) 0) ⟨Nat.le_refl _,hL2,rng_append.2 ⟨rng_digs hB _,by simp [rng]⟩,by simp,rng_rep (by decide) _,by rw [List.drop_eq_nil_of_le (by simp),hvP];simp [val],?_⟩ ?_ ?_
    · rw [hvP]
      have h3 : B ^ (m - 1) ≤ q:=by
        refine Nat.le_of_not_lt fun h=>?_
        have:=(digs_len hB).2 h;omega
      have h4 : B ^ (m - 1) * B ^ (la - m + 1) ≤ q * B ^ (la - m + 1):=Nat.mul_le_mul_right _ h3
      rw [← Nat.pow_add,show m - 1 + (la - m + 1) = la by omega] at h4
      have h5:=digs_lt hB p
      rw [← hla] at h5
      rw [hP,hD,Nat.mul_right_comm]
      exact Nat.mul_lt_mul_of_pos_right (Nat.lt_of_lt_of_le h5 h4) h2n
    · (refine fz hS ?_ ?_;all_goals (repeat' (first | refine fJ ?_ ?_ | exact True.intro));all_goals (try (first | exact kv | (refine kW (ov_of lks) rfl ?_ ?_))))
      · exact kO (by rw [e2];exact U_rep _ 0)
      all_goals exact kWin (by simp [ov,lkS]) rfl (by simp <;> omega) (by simp <;> omega)
    rintro j o ou ⟨h1,h2,h3,h4,h5,h6,h7⟩
    have hUo:=U_len o
    have hUou:=U_len ou
    have hUD:=U_len (digs B D)
    repeat refine gO ?_
    (refine zw ?_;refine s_cmp (fun h8=>?_) (fun h8=>?_))
    · repeat refine gO ?_
      obtain ⟨at_,hat⟩ : ∃ at_,j = at_ + 1:=⟨j - 1,by omega⟩
      subst hat
      have hpl : (o.take at_).length = at_:=by simp;omega
      have hwl : ((o.drop at_).take (m + 1)).length = m + 1:=by simp;omega
      have ho : o.take at_ ++ (o.drop at_).take (m + 1) ++ o.drop (at_ + (m + 1)) = o:=by
        rw [List.append_assoc,← List.drop_drop,List.take_append_drop,List.take_append_drop]
      obtain ⟨p1,hp1⟩ : ∃ p1,p1 = o.take at_:=⟨_,rfl⟩
      obtain ⟨w,hw⟩ : ∃ w,w = (o.drop at_).take (m + 1):=⟨_,rfl⟩
      obtain ⟨r,hr⟩ : ∃ r,r = o.drop (at_ + (m + 1)):=⟨_,rfl⟩
      rw [← hp1,← hw,← hr] at ho
      rw [← hp1] at hpl
      rw [← hw] at hwl
      have hrp : rng B p1:=by rw [hp1];exact rng_take h3 _
      have hrw : rng B w:=by rw [hw];exact rng_take (rng_drop h3 _) _
      have hrr : rng B r:=by rw [hr];exact rng_drop h3 _
      rw [← ho] at h7
      obtain ⟨hvr,hvw⟩:=over_step B at_ m D (by decide) hrp hpl hwl hDlt h7
      refine aw_weak ⟨lk' [(8,uv n),(9,us (digs B D)),(10,.c (.win (.loc 52) 0 (la + 1) (k + 2))),(11,.c (.win (.loc 63) 0 (la - m + 1) (la - m + 1))),(12,iv at_),(71,.c (.win (.loc 63) 0 (la - m + 1) (la - m + 1))),(72,iv at_),(80,.c (.win (.loc 52) p1.length (m + 1) (k + 2 - at_))),(81,us (digs B D))],ov [(.loc 52,oi (p1 ++ w ++ r)),(.loc 63,oi ou)] (pushS S)⟩ ?_ ?_
      · (refine fz hS ?_ ?_;all_goals (repeat' (first | refine fJ ?_ ?_ | exact True.intro));all_goals (try (first | exact kv | (refine kW (ov_of lks) rfl ?_ ?_))))
        · exact kO (by rw [ho])
      (refine zw ?_;refine s_proc (c_digit (.loc 52) p1 w r D (k + 2 - at_) m hDl (by omega) (by omega) (by omega) hwl hrw hvw (by omega)) ?_ (by intro p hp;first | (simp only [List.mem_singleton] at hp;subst hp;exact lks) | (simp only [List.mem_cons,List.not_mem_nil,or_false] at hp;rcases hp with rfl | rfl <;> exact lks)))
      have hgt : val B w / D < B:=(Nat.div_lt_iff_lt_mul (by omega)).2 (by rw [Nat.mul_comm];exact hvw)
      have hDpos : 0 < D:=by omega
      have hmod:=Nat.mod_lt (val B w) hDpos
      repeat refine gO ?_
      have ei : (at_ : Int).toNat = at_:=by omega
      have hnw : (padd (m + 1) (val B w % D)).length = m + 1:=len_padd (Nat.lt_trans hmod (Nat.lt_trans hDlt (Nat.pow_lt_pow_right (by decide) (by omega))))
      have hol : o.length = p1.length + w.length + r.length:=by rw [← ho];simp;omega
      refine ⟨at_,p1 ++ padd (m + 1) (val B w % D) ++ r,ou.set at_ (val B w / D),?_,⟨by omega,by simp [hnw];omega,rng_append.2 ⟨rng_append.2 ⟨hrp,rng_padd _ _⟩,hrr⟩,by simpa using h4,rng_set h5 hgt,?_,?_⟩,by omega⟩
      · (refine fz hS ?_ ?_;all_goals (repeat' (first | refine fJ ?_ ?_ | exact True.intro));all_goals (try (first | exact kv | (refine kW (ov_of lks) rfl ?_ ?_))))
        exact kO (by rw [ei,Nat.zero_add];exact U_set _ _ _)
      · have e3 : val B (p1 ++ padd (m + 1) (val B w % D) ++ r) = val B p1 + B ^ at_ * (val B w % D):=by
          rw [val_append,val_append,hvr,val_padd,hpl];simp
        have e4 : val B o = val B p1 + B ^ at_ * val B w:=by
          rw [← ho,val_append,val_append,hvr,hpl];simp
        have e5 : (ou.set at_ (val B w / D)).drop at_ = (val B w / D) :: ou.drop (at_ + 1):=drop_set_at (by omega)
        rw [e4] at h6
        rw [e3,e5,val_cons,← h6,Nat.pow_succ]
        have e6:=Nat.div_add_mod (val B w) D
        have e7 : B ^ at_ * val B w = B ^ at_ * (D * (val B w / D)) + B ^ at_ * (val B w % D):=by rw [← Nat.mul_add,e6]
        rw [e7,Nat.mul_add,Nat.add_mul,← Nat.mul_assoc (B ^ at_) B,Nat.mul_assoc (B ^ at_) (val B w / D) D,Nat.mul_comm (val B w / D) D]
        omega
      · rw [val_append,val_append,hvr,val_padd,hpl]
        have e3 : val B p1 < B ^ at_:=by have:=val_lt hrp;rwa [hpl] at this
        have e4 : B ^ at_ * (val B w % D + 1) ≤ B ^ at_ * D:=Nat.mul_le_mul_left _ hmod
        rw [Nat.mul_add] at e4
        rw [Nat.mul_comm D]
        simp only [Nat.mul_zero,Nat.add_zero]
        omega
    · repeat refine gO ?_
      have hj : j = 0:=by omega
      subst hj
      refine ⟨o,ou,?_,h2,h3,h4,h5,by simpa using h6,by simpa using h7⟩
      (refine fz hS ?_ ?_;all_goals (repeat' (first | refine fJ ?_ ?_ | exact True.intro));all_goals (try (first | exact kv | (refine kW (ov_of lks) rfl ?_ ?_))))
  rintro st ⟨o,ou,hst,h2,h3,h4,h5,h6,h7⟩
  refine awp_weak _ hst ?_
  have hDpos : 0 < D:=by omega
  have hUo:=U_len o
  have hUou:=U_len ou
  have hqq : val B ou = p / q:=by
    have : val B ou = P / D:=by
      rw [← h6,Nat.mul_comm,Nat.mul_add_div hDpos,Nat.div_eq_of_lt h7,Nat.add_zero]
    rw [this,hP,hD,Nat.mul_div_mul_right _ _ h2n]
  have hrr : val B o = (p % q) * 2 ^ n:=by
    have : val B o = P % D:=by
      rw [← h6,Nat.mul_comm,Nat.mul_add_mod,Nat.mod_eq_of_lt h7]
    rw [this,hP,hD,Nat.mul_mod_mul_right]
  have hvo : val B (o.take (la + 1)) = val B o:=by
    have e:=val_split B (l:=o) (i:=la + 1) (by omega)
    have : val B (o.drop (la + 1)) = 0:=by
      refine Nat.eq_zero_of_not_pos fun h=>?_
      have h1 : B ^ (la + 1) ≤ B ^ (la + 1) * val B (o.drop (la + 1)):=Nat.le_mul_of_pos_right _ h
      have h8 : B ^ m ≤ B ^ (la + 1):=Nat.pow_le_pow_right (by decide) (by omega)
      omega
    rw [this] at e;omega
  have hmq:=Nat.mod_lt p hq0
  have hlr : (digs B ((p % q) * 2 ^ n)).length ≤ m:=(digs_len hB).2 (by rw [← hrr];omega)
  ((first | refine aw_fz 52 ?_ ?_ | refine awp_fz 52 ?_ ?_);rotate_left;· (repeat' (first | exact True.intro | refine And.intro ?_ ?_)) <;> first | (show _ ≤ _;simp;done) | (show _ ≤ _;simp;omega) | (show _ ≤ _;omega))
  ((first | refine aw_fz 63 ?_ ?_ | refine awp_fz 63 ?_ ?_);rotate_left;· (repeat' (first | exact True.intro | refine And.intro ?_ ?_)) <;> first | (show _ ≤ _;simp;done) | (show _ ≤ _;simp;omega) | (show _ ≤ _;omega))
  repeat refine gO ?_
  have hc:=c_trim (o.take (la + 1)) (rng_take h3 _) (by simp;omega)
  rw [hvo,hrr] at hc
  have hUt : ((U o).drop 0).take (la + 1) = U (o.take (la + 1)):=by rw [List.drop_zero,U_take]
  refine aw_weak ⟨lk' [(11,us ou),(8,uv n),(85,us (o.take (la + 1)))],ov [] (pushS S)⟩ ?_ ?_
  · (refine fz hS ?_ ?_;all_goals (repeat' (first | refine fJ ?_ ?_ | exact True.intro));all_goals (try (first | exact kv | (refine kW (ov_of lks) rfl ?_ ?_))))
    · exact kI (by rw [List.drop_zero,U_take,take_all (by omega)])
    · exact kI hUt
  (refine zw ?_;refine s_call (hc) ?_)
  repeat refine gO ?_
  (refine zw ?_;refine s_call (c_right ((p % q) * 2 ^ n) n (by omega) (by omega)) ?_)
  repeat refine gO ?_
  have hc2:=c_trim ou h5 (by omega)
  rw [hqq] at hc2
  (refine zw ?_;refine s_call (hc2) ?_)
  repeat refine gO ?_
  rw [Nat.mul_div_cancel _ h2n]
  (refine eF hS ?_ (fl':=[(4,us (digs B (p / q))),(5,us (digs B (p % q)))]);(repeat' (first | refine fJ ?_ ?_ | exact True.intro);all_goals (try (first | exact kv | (refine kW (ov_of lks) rfl ?_ ?_)))))
end Go.Proofs

/-
  big: QuoRem, Quo.
-/
namespace Go.Proofs
open Go Go.Abs Go.Nums
attribute [local irreducible] thenA blockA awp aw Stp EndF EndP EndN EndG aOps
set_option linter.unusedSimpArgs false
set_option maxHeartbeats 4000000

inductive BArg2 (z : Nm) (a b : Leaf) (r : Nm) (c d : Leaf) : AVal→Int→Prop
  | im (n : Int) : BArg2 z a b r c d (bp n) n
  | one (n : Int) (h1 : a = .sc (.bool (decide (n < 0)))) (h2 : b = .ints .u64 (U (digs B n.natAbs))) : BArg2 z a b r c d (ptr z) n
  | two (n : Int) (h1 : c = .sc (.bool (decide (n < 0)))) (h2 : d = .ints .u64 (U (digs B n.natAbs))) : BArg2 z a b r c d (ptr r) n

theorem abs_of (n : Int) : n = if n < 0 then -(n.natAbs : Int) else n.natAbs:=by split <;> omega
theorem sg_quo (n m : Int) : sg (decide (n < 0) != decide (m < 0)) (n.natAbs / m.natAbs) = n.tdiv m:=by
  have e : n.tdiv m = (if n < 0 then -(n.natAbs : Int) else n.natAbs).tdiv (if m < 0 then -(m.natAbs : Int) else m.natAbs):=by rw [← abs_of,← abs_of]
  rw [e]
  by_cases h1 : n < 0 <;> by_cases h2 : m < 0 <;> simp only [sg,h1,h2,decide_true,decide_false,if_true,if_false,Int.neg_tdiv,Int.tdiv_neg,Int.neg_neg,bne_self_eq_false] <;> first | rfl | (simp;rfl) | simp
theorem sg_rem (n m : Int) : sg (decide (n < 0)) (n.natAbs % m.natAbs) = n.tmod m:=by
  have e : n.tmod m = (if n < 0 then -(n.natAbs : Int) else n.natAbs).tmod (if m < 0 then -(m.natAbs : Int) else m.natAbs):=by rw [← abs_of,← abs_of]
  rw [e]
  by_cases h1 : n < 0 <;> by_cases h2 : m < 0 <;> simp only [sg,h1,h2,decide_true,decide_false,if_true,if_false,Int.neg_tmod,Int.tmod_neg] <;> first | rfl | (simp;rfl) | simp

theorem c_quorem (z r : Nm) (hzr : z ≠ r) (a b c d : Leaf) (xv : AVal) (n m : Int) (hx : BArg2 z a b r c d xv n) (hm0 : m ≠ 0) (hn : (digs B n.natAbs).length < 2 ^ 37) (hm : (digs B m.natAbs).length < 2 ^ 37) :
    AProc Tryz.prog 112 [ptr z,xv,bp m,ptr r] [(z,.cells tBig ([a,b].map Leaf.cell)),(r,.cells tBig ([c,d].map Leaf.cell))] [(z,bo (n.tdiv m)),(r,bo (n.tmod m))] (.tup [ptr z,ptr r]):=by
  have hl1 : (digs B (n.natAbs / m.natAbs)).length ≤ (digs B n.natAbs).length:=len_mono hB (Nat.div_le_self _ _)
  have hl2 : (digs B (n.natAbs % m.natAbs)).length ≤ (digs B n.natAbs).length:=len_mono hB (Nat.mod_le _ _)
  rcases hx with _ | ⟨_,rfl,rfl⟩ | ⟨_,rfl,rfl⟩ <;>
  · (refine aproc2 (mu:=muF) hzr Tryz.func112 rfl (by decide) rfl (by decide) (Nat.le_of_ble_eq_true rfl) (by simp [AVal.at,AVal.at1,Cell.at] <;> grind) (by simp [AVal.at,AVal.at1,Cell.at]) (by simp [AVal.at,AVal.at1,Cell.at]) (by simp [AVal.at,AVal.at1,Cell.at] <;> grind) nmX nmX nmX nmX fun S hS=>?_;simp only [List.map_cons,List.map_nil,AVal.map,AVal.map1,Cell.map])
    repeat refine gO ?_
    (refine zw ?_;refine s_call (c_over n.natAbs m.natAbs (by omega) hn hm) ?_)
    repeat refine gO ?_
    (refine zw ?_;refine s_proc (c_putD (.out z) _ _ _ (n.natAbs / m.natAbs) (by omega)) ?_ (by intro p hp;first | (simp only [List.mem_singleton] at hp;subst hp;exact lks) | (simp only [List.mem_cons,List.not_mem_nil,or_false] at hp;rcases hp with rfl | rfl <;> exact lks)))
    repeat refine gO ?_
    (refine zw ?_;refine s_proc (c_putD (.out r) _ _ _ (n.natAbs % m.natAbs) (by omega)) ?_ (by intro p hp;first | (simp only [List.mem_singleton] at hp;subst hp;exact lks) | (simp only [List.mem_cons,List.not_mem_nil,or_false] at hp;rcases hp with rfl | rfl <;> exact lks)))
    repeat refine gO ?_
    (refine endP2 ttOk (fl':=[(8,ptr (.out z)),(9,ptr (.out r))]) (.inr rfl) hS hzr lks lks nmX nmX (by intro m hm hm2;simp [lkS,addL,delL,Nm.isLoc,hm,hm2]) ?_ ?_ ?_ (by exact rfl) (by exact rfl) (by exact rfl))
    · rw [sg_quo]
    · rw [sg_rem]
    · (repeat' (first | refine fJ ?_ ?_ | exact True.intro);all_goals (try (first | exact kv | (refine kW (ov_of lks) rfl ?_ ?_))))

end Go.Proofs

/-
  big: size, Bytes, SetBytes.
-/
namespace Go.Proofs
open Go Go.Abs Go.Nums
attribute [local irreducible] thenA blockA awp aw Stp EndF EndP EndN EndG aOps
set_option linter.unusedSimpArgs false
set_option maxHeartbeats 4000000

abbrev ub (l : List Nat) : AVal:=.c (.ints .u8 (U l))
abbrev ob8 (l : List Nat) : AObj:=.ints 5 .u8 (U l)

theorem blen_top {lo top k : Nat} (hlo : lo < B ^ k) (ht : top ≠ 0) : blen (lo + B ^ k * top) = 64 * k + blen top:=by
  have h0 : 1 ≤ blen top:=by
    rcases Nat.eq_zero_or_pos (blen top) with h | h
    · have:=(blen_le top 0).1 (by omega);omega
    · exact h
  have e : B ^ k = 2 ^ (64 * k):=by rw [Nat.pow_mul]
  have hle : ∀ j,blen (lo + B ^ k * top) ≤ 64 * k + j ↔ blen top ≤ j:=fun j=>by
    rw [blen_le,blen_le,Nat.pow_add,← e]
    constructor
    · intro h
      refine Nat.lt_of_not_le fun g=>?_
      have:=Nat.mul_le_mul_left (B ^ k) g
      omega
    · intro h
      have:=Nat.mul_le_mul_left (B ^ k) (show top + 1 ≤ 2 ^ j from h)
      rw [Nat.mul_add] at this
      omega
  refine Nat.le_antisymm ((hle _).2 (Nat.le_refl _)) ?_
  have hn : ¬ blen (lo + B ^ k * top) ≤ 64 * k + (blen top - 1):=fun h=>by have:=(hle _).1 h;omega
  omega

theorem c_size (n : Nat) (hn : (digs B n).length < 2 ^ 40) : AFun Tryz.prog 94 [us (digs B n)] (iv (blen n)):=by
  refine aF (mu:=muF) Tryz.func94 fun S hS=>?_
  have hU:=U_len (digs B n)
  repeat refine gO ?_
  (refine zw ?_;refine s_cmp (fun h1=>?_) (fun h1=>?_))
  · have h0 : n = 0:=(digs_nil hB).1 (List.eq_nil_of_length_eq_zero (by omega))
    subst h0
    repeat refine gO ?_
    (refine eF hS ?_ (fl':=[(2,iv (blen 0))]);(repeat' (first | refine fJ ?_ ?_ | exact True.intro);all_goals (try (first | exact kv | (refine kW (ov_of lks) rfl ?_ ?_)))))
  repeat refine gO ?_
  obtain ⟨m,hm⟩ : ∃ m,(digs B n).length = m + 1:=⟨(digs B n).length - 1,by omega⟩
  obtain ⟨t,ht⟩ : ∃ t,t = (digs B n).getD m 0:=⟨_,rfl⟩
  rw [show (((U (digs B n)).length : Int) - 1).toNat = m by omega,U_get,← ht]
  have ht64 : t < B:=by rw [ht];exact getD_lt (by decide) (rng_digs hB n) _
  have ht0 : t ≠ 0:=by
    have hne : digs B n ≠ []:=fun h=>by rw [h] at hm;simp at hm
    have:=digs_top hB hne
    rw [getLast_getD hne,hm,Nat.add_sub_cancel,← ht] at this;exact this
  have hbl : blen t ≤ 64:=(blen_le t 64).2 ht64
  have e:=val_last B hm
  rw [val_digs hB,← ht] at e
  have e2:=blen_top (val_take_lt (rng_digs hB n) (by omega) : val B ((digs B n).take m) < B ^ m) ht0
  rw [← e] at e2
  (refine zw ?_;refine s_call (c_lz64 t ht64) ?_)
  repeat refine gO ?_
  (refine eF hS ?_ (fl':=[(2,iv (blen n))]);(repeat' (first | refine fJ ?_ ?_ | exact True.intro);all_goals (try (first | exact kv | (refine kW (ov_of lks) rfl ?_ ?_)))))

def bsOf (n : Nat) : List Nat:=(digs 256 n).reverse
theorem h256 : 2 ≤ 256:=by decide
theorem bs_len (n : Nat) : (bsOf n).length = (blen n + 7) / 8:=by
  have h : ∀ k,(digs 256 n).length ≤ k ↔ (blen n + 7) / 8 ≤ k:=fun k=>by
    rw [digs_len h256,show (256 : Nat) ^ k = 2 ^ (8 * k) by rw [show (256 : Nat) = 2 ^ 8 from rfl,← Nat.pow_mul],← blen_le]
    omega
  rw [bsOf,List.length_reverse]
  exact Nat.le_antisymm ((h _).2 (Nat.le_refl _)) ((h _).1 (Nat.le_refl _))
theorem bs_eq {l : List Nat} {n : Nat} (hr : rng 256 l) (hl : l.length = (bsOf n).length) (h : ∀ i,i < l.length→l.getD i 0 = n / 256 ^ (l.length - 1 - i) % 256) : l = bsOf n:=by
  have e : l.reverse = digs 256 n:=by
    have hl2 : l.length = (digs 256 n).length:=by rw [hl,bsOf,List.length_reverse]
    refine val_inj (b:=256) (by decide) (rng_rev hr) (rng_digs h256 n) (by rw [List.length_reverse];exact hl2) ?_
    have:=val_of_getD (b:=256) (n:=n) (by decide) l.length l.reverse fun i hi=>by
      rw [getD_rev hi,h _ (by omega)];congr 3;omega
    rw [take_all (by simp)] at this
    rw [this,val_digs h256]
    exact Nat.mod_eq_of_lt (by rw [hl2];exact digs_lt h256 n)
  rw [bsOf,← e,List.reverse_reverse]

theorem c_bytes (n : Int) (hn : (digs B n.natAbs).length < 2 ^ 38) : AFun Tryz.prog 138 [bp n] (ub (bsOf n.natAbs)):=by
  refine aF (mu:=muF) Tryz.func138 fun S hS=>?_
  obtain ⟨N,hN⟩ : ∃ N,N = n.natAbs:=⟨_,rfl⟩
  rw [← hN] at hn ⊢
  have hb : blen N ≤ 64 * (digs B N).length:=by
    rw [blen_le,Nat.pow_mul];exact digs_lt hB N
  repeat refine gO ?_
  rw [← hN]
  (refine zw ?_;refine s_call (c_size N (by omega)) ?_)
  repeat refine gO ?_
  obtain ⟨L,hL⟩ : ∃ L,L = (bsOf N).length:=⟨_,rfl⟩
  have hL2:=bs_len N
  rw [← hL] at hL2
  have e1 : (((blen N : Nat) : Int) + 7) / 8 = (L : Int):=by omega
  rw [e1]
  refine awp_rep2 (fun (i : Nat) (o : List Nat)=>⟨lk' [(0,bp n),(3,iv L),(4,.c (.win (.loc 15) 0 L L)),(16,iv L),(17,iv i)],ov [(.loc 15,ob8 o)] (pushS S)⟩)
    (fun i o=>i ≤ L∧o.length = L∧rng 256 o∧∀ j,j < i→o.getD j 0 = N / 256 ^ (L - 1 - j) % 256) (fun i _=>L - i)
    0 (List.replicate L 0) ⟨Nat.zero_le _,by simp,rng_rep (by decide) _,fun j hj=>by omega⟩ ?_ ?_
  · (refine fz hS ?_ ?_;all_goals (repeat' (first | refine fJ ?_ ?_ | exact True.intro));all_goals (try (first | exact kv | (refine kW (ov_of lks) rfl ?_ ?_))))
    exact kO (by rw [Int.toNat_natCast];exact U_rep _ 0)
  rintro i o ⟨h1,h2,h3,h4⟩
  have hUo:=U_len o
  have hUN : (U (digs B n.natAbs)).length = (digs B N).length:=by rw [U_len,hN]
  repeat refine gO ?_
  (refine zw ?_;refine s_cmp (fun h5=>?_) (fun h5=>?_))
  · repeat refine gO ?_
    obtain ⟨k,hk⟩ : ∃ k,k = L - 1 - i:=⟨_,rfl⟩
    rw [show ((((L : Int) - 1 - i) / 8).toNat) = k / 8 by omega,U_get,← hN]
    have ei : (i : Int).toNat = i:=by omega
    obtain ⟨x,hx⟩ : ∃ x,x = (digs B N).getD (k / 8) 0:=⟨_,rfl⟩
    have hx64 : x < 18446744073709551616:=by rw [hx];exact getD_lt (b:=B) (by decide) (rng_digs hB N) _
    rw [← hx]
    (first | refine stp_shrN (x) (8 * (k % 8)) (by exact rfl) (by exact rfl) (by first | exact True.intro | omega | (simp only [and_true,List.length_map,List.length_replicate,List.length_set,List.length_append,List.length_cons,List.length_nil,List.length_take,List.length_drop] at *;omega)) (by first | exact True.intro | omega | (simp only [and_true,List.length_map,List.length_replicate,List.length_set,List.length_append,List.length_cons,List.length_nil,List.length_take,List.length_drop] at *;omega)) (by first | exact True.intro | omega | (simp only [and_true,List.length_map,List.length_replicate,List.length_set,List.length_append,List.length_cons,List.length_nil,List.length_take,List.length_drop] at *;omega)) ?_ | refine aw_cons (stp_shrN (x) (8 * (k % 8)) (by exact rfl) (by exact rfl) (by first | exact True.intro | omega | (simp only [and_true,List.length_map,List.length_replicate,List.length_set,List.length_append,List.length_cons,List.length_nil,List.length_take,List.length_drop] at *;omega)) (by first | exact True.intro | omega | (simp only [and_true,List.length_map,List.length_replicate,List.length_set,List.length_append,List.length_cons,List.length_nil,List.length_take,List.length_drop] at *;omega)) (by first | exact True.intro | omega | (simp only [and_true,List.length_map,List.length_replicate,List.length_set,List.length_append,List.length_cons,List.length_nil,List.length_take,List.length_drop] at *;omega)) ?_) | refine aOps_cons (stp_shrN (x) (8 * (k % 8)) (by exact rfl) (by exact rfl) (by first | exact True.intro | omega | (simp only [and_true,List.length_map,List.length_replicate,List.length_set,List.length_append,List.length_cons,List.length_nil,List.length_take,List.length_drop] at *;omega)) (by first | exact True.intro | omega | (simp only [and_true,List.length_map,List.length_replicate,List.length_set,List.length_append,List.length_cons,List.length_nil,List.length_take,List.length_drop] at *;omega)) (by first | exact True.intro | omega | (simp only [and_true,List.length_map,List.length_replicate,List.length_set,List.length_append,List.length_cons,List.length_nil,List.length_take,List.length_drop] at *;omega)) ?_))
    (refine zw ?_;refine stp_pure ttOk false (by exact rfl) (by first | exact True.intro | omega | (simp only [and_true,List.length_map,List.length_replicate,List.length_set,List.length_append,List.length_cons,List.length_nil,List.length_take,List.length_drop] at *;omega)) ?_)
    repeat refine gO ?_
    have hw : IntKind.u8.wrap ((x / 2 ^ (8 * (k % 8)) : Nat) : Int) = ((x / 2 ^ (8 * (k % 8)) % 256 : Nat) : Int):=by
      simp [IntKind.wrap,IntKind.bits,IntKind.signed]
    have hd : x / 2 ^ (8 * (k % 8)) % 256 = N / 256 ^ k % 256:=by
      rw [hx,getD_val (b:=B) (by decide) _ (rng_digs hB N),val_digs hB]
      have:=digit_sub N (k / 8) (k % 8) (by omega)
      rw [show 8 * (k / 8) + k % 8 = k by omega] at this
      exact this
    rw [hw,hd,ei,Nat.zero_add]
    refine ⟨i + 1,o.set i (N / 256 ^ k % 256),?_,⟨by omega,by simpa using h2,rng_set h3 (Nat.mod_lt _ (by decide)),fun j hj=>?_⟩,by omega⟩
    · (refine fz hS ?_ ?_;all_goals (repeat' (first | refine fJ ?_ ?_ | exact True.intro));all_goals (try (first | exact kv | (refine kW (ov_of lks) rfl ?_ ?_))))
      exact kO (U_set _ _ _)
    · rw [getD_set (by omega)]
      split
      · rename_i e;subst e;rw [hk]
      · exact h4 j (by omega)
  · repeat refine gO ?_
    have hi : i = L:=by omega
    subst hi
    have e : o = bsOf N:=bs_eq h3 (by omega) (by rw [h2];exact h4)
    rw [← e]
    (refine eF hS ?_ (fl':=[(2,ub o)]);(repeat' (first | refine fJ ?_ ?_ | exact True.intro);all_goals (try (first | exact kv | (refine kW (ov_of lks) rfl ?_ ?_)))))
    · rw [U_len];omega
    · rw [List.drop_zero,U_take,take_all (by omega)]

theorem setbytes_step (V m : Nat) (hm : 0 < m) : V / 256 ^ (m - 1) * 256 ^ (m - 1) = V / 256 ^ m * 256 ^ m + V / 256 ^ (m - 1) % 256 * 256 ^ (m - 1):=by
  have e : 256 ^ m = 256 ^ (m - 1) * 256:=by rw [← Nat.pow_succ];congr 1;omega
  have h:=Nat.div_add_mod (V / 256 ^ (m - 1)) 256
  rw [Nat.div_div_eq_div_mul,← e] at h
  have k:=congrArg (· * 256 ^ (m - 1)) h
  simp only [Nat.add_mul] at k
  rw [← k,e,Nat.mul_comm 256,Nat.mul_assoc,Nat.mul_comm 256]

theorem c_setbytes (z : Nm) (a b : Leaf) (l : List Nat) (hr : rng 256 l) (hl : l.length < 2 ^ 40) :
    AProc Tryz.prog 139 [ptr z,ub l] [(z,.cells tBig ([a,b].map Leaf.cell))] [(z,bo (val 256 l.reverse : Nat))] (ptr z):=by
  (refine aproc1 (mu:=muF) Tryz.func139 rfl (by decide) rfl (by decide) (Nat.le_of_ble_eq_true rfl) (by simp [AVal.at,AVal.at1,Cell.at]) (by simp [AVal.at,AVal.at1,Cell.at]) (by simp [AVal.at,AVal.at1,Cell.at]) nmX nmX fun S hS=>?_;simp only [List.map_cons,List.map_nil,AVal.map,AVal.map1,Cell.map])
  obtain ⟨L,hL⟩ : ∃ L,L = l.length:=⟨_,rfl⟩
  obtain ⟨V,hV⟩ : ∃ V,V = val 256 l.reverse:=⟨_,rfl⟩
  have hVlt : V < 256 ^ L:=by rw [hV,hL,← List.length_reverse];exact val_lt (rng_rev hr)
  have hUl:=U_len l
  repeat refine gO ?_
  have e1 : ((((U l).length : Int) / 8 + 1).toNat) = L / 8 + 1:=by omega
  refine awp_rep2 (fun (i : Nat) (o : List Nat)=>⟨lk' [(0,ptr (.out z)),(1,ub l),(5,.c (.win (.loc 12) 0 (L / 8 + 1) (L / 8 + 1))),(14,iv L),(15,iv i)],ov [(.loc 12,oi o),(.out z,.cells tBig ([a,b].map Leaf.cell))] (pushS S)⟩)
    (fun i o=>i ≤ L∧o.length = L / 8 + 1∧rng B o∧val B o = V / 256 ^ (L - i) * 256 ^ (L - i)) (fun i _=>L - i)
    0 (List.replicate (L / 8 + 1) 0) ⟨Nat.zero_le _,by simp,rng_rep (by decide) _,by rw [val_rep0,Nat.sub_zero,Nat.div_eq_of_lt hVlt,Nat.zero_mul]⟩ ?_ ?_
  · (refine fz hS ?_ ?_;all_goals (repeat' (first | refine fJ ?_ ?_ | exact True.intro));all_goals (try (first | exact kv | (refine kW (ov_of lks) rfl ?_ ?_))))
    exact kO (by rw [e1];exact U_rep _ 0)
  rintro i o ⟨h1,h2,h3,h4⟩
  have hUo:=U_len o
  repeat refine gO ?_
  (refine zw ?_;refine s_cmp (fun h5=>?_) (fun h5=>?_))
  · repeat refine gO ?_
    obtain ⟨k,hk⟩ : ∃ k,L - i = k + 1:=⟨L - i - 1,by omega⟩
    have ei : (i : Int).toNat = i:=by omega
    have ek : (((U l).length : Int) - 1 - i) = (k : Int):=by omega
    have ek8 : ((k : Int) / 8).toNat = k / 8:=by omega
    rw [ei,ek,ek8,U_get,Nat.zero_add,U_get]
    obtain ⟨c,hc⟩ : ∃ c,c = l.getD i 0:=⟨_,rfl⟩
    have hc8 : c < 256:=by rw [hc];exact getD_lt (by decide) hr _
    obtain ⟨x,hx⟩ : ∃ x,x = o.getD (k / 8) 0:=⟨_,rfl⟩
    have hx64 : x < 18446744073709551616:=by rw [hx];exact getD_lt (b:=B) (by decide) h3 _
    rw [← hc,← hx]
    repeat refine gO ?_
    (first | refine stp_shlN (c) (8 * (k % 8)) (by exact rfl) (by exact rfl) (by first | exact True.intro | omega | (simp only [and_true,List.length_map,List.length_replicate,List.length_set,List.length_append,List.length_cons,List.length_nil,List.length_take,List.length_drop] at *;omega)) (by first | exact True.intro | omega | (simp only [and_true,List.length_map,List.length_replicate,List.length_set,List.length_append,List.length_cons,List.length_nil,List.length_take,List.length_drop] at *;omega)) ?_ | refine aw_cons (stp_shlN (c) (8 * (k % 8)) (by exact rfl) (by exact rfl) (by first | exact True.intro | omega | (simp only [and_true,List.length_map,List.length_replicate,List.length_set,List.length_append,List.length_cons,List.length_nil,List.length_take,List.length_drop] at *;omega)) (by first | exact True.intro | omega | (simp only [and_true,List.length_map,List.length_replicate,List.length_set,List.length_append,List.length_cons,List.length_nil,List.length_take,List.length_drop] at *;omega)) ?_) | refine aOps_cons (stp_shlN (c) (8 * (k % 8)) (by exact rfl) (by exact rfl) (by first | exact True.intro | omega | (simp only [and_true,List.length_map,List.length_replicate,List.length_set,List.length_append,List.length_cons,List.length_nil,List.length_take,List.length_drop] at *;omega)) (by first | exact True.intro | omega | (simp only [and_true,List.length_map,List.length_replicate,List.length_set,List.length_append,List.length_cons,List.length_nil,List.length_take,List.length_drop] at *;omega)) ?_))
    have hp8 : (2 : Nat) ^ (8 * (k % 8)) = 256 ^ (k % 8):=by rw [show (256 : Nat) = 2 ^ 8 from rfl,← Nat.pow_mul]
    have hcs : c * 2 ^ (8 * (k % 8)) < 2 ^ (8 * (k % 8) + 8):=by
      rw [Nat.pow_add,Nat.mul_comm];exact Nat.mul_lt_mul_of_pos_left hc8 (Nat.two_pow_pos _)
    have hc64 : c * 2 ^ (8 * (k % 8)) < 18446744073709551616:=Nat.lt_of_lt_of_le hcs (by
      rw [show (18446744073709551616 : Nat) = 2 ^ 64 from rfl];exact Nat.pow_le_pow_right (by decide) (by omega))
    rw [Nat.mod_eq_of_lt hc64]
    repeat refine gO ?_
    (first | refine stp_orN (x) (c * 2 ^ (8 * (k % 8))) (by exact rfl) (by exact rfl) (by first | exact True.intro | omega | (simp only [and_true,List.length_map,List.length_replicate,List.length_set,List.length_append,List.length_cons,List.length_nil,List.length_take,List.length_drop] at *;omega)) (by first | exact True.intro | omega | (simp only [and_true,List.length_map,List.length_replicate,List.length_set,List.length_append,List.length_cons,List.length_nil,List.length_take,List.length_drop] at *;omega)) (by first | exact True.intro | omega | (simp only [and_true,List.length_map,List.length_replicate,List.length_set,List.length_append,List.length_cons,List.length_nil,List.length_take,List.length_drop] at *;omega)) (by first | exact True.intro | omega | (simp only [and_true,List.length_map,List.length_replicate,List.length_set,List.length_append,List.length_cons,List.length_nil,List.length_take,List.length_drop] at *;omega)) ?_ | refine aw_cons (stp_orN (x) (c * 2 ^ (8 * (k % 8))) (by exact rfl) (by exact rfl) (by first | exact True.intro | omega | (simp only [and_true,List.length_map,List.length_replicate,List.length_set,List.length_append,List.length_cons,List.length_nil,List.length_take,List.length_drop] at *;omega)) (by first | exact True.intro | omega | (simp only [and_true,List.length_map,List.length_replicate,List.length_set,List.length_append,List.length_cons,List.length_nil,List.length_take,List.length_drop] at *;omega)) (by first | exact True.intro | omega | (simp only [and_true,List.length_map,List.length_replicate,List.length_set,List.length_append,List.length_cons,List.length_nil,List.length_take,List.length_drop] at *;omega)) (by first | exact True.intro | omega | (simp only [and_true,List.length_map,List.length_replicate,List.length_set,List.length_append,List.length_cons,List.length_nil,List.length_take,List.length_drop] at *;omega)) ?_) | refine aOps_cons (stp_orN (x) (c * 2 ^ (8 * (k % 8))) (by exact rfl) (by exact rfl) (by first | exact True.intro | omega | (simp only [and_true,List.length_map,List.length_replicate,List.length_set,List.length_append,List.length_cons,List.length_nil,List.length_take,List.length_drop] at *;omega)) (by first | exact True.intro | omega | (simp only [and_true,List.length_map,List.length_replicate,List.length_set,List.length_append,List.length_cons,List.length_nil,List.length_take,List.length_drop] at *;omega)) (by first | exact True.intro | omega | (simp only [and_true,List.length_map,List.length_replicate,List.length_set,List.length_append,List.length_cons,List.length_nil,List.length_take,List.length_drop] at *;omega)) (by first | exact True.intro | omega | (simp only [and_true,List.length_map,List.length_replicate,List.length_set,List.length_append,List.length_cons,List.length_nil,List.length_take,List.length_drop] at *;omega)) ?_))
    repeat refine gO ?_
    have hd : V / 256 ^ k % 256 = c:=by
      rw [hV,← getD_val (b:=256) (by decide) k (rng_rev hr),getD_rev (by omega),hc]
      congr 1;omega
    have hxm : x % 2 ^ (8 * (k % 8) + 8) = 0:=by
      have e1 : (18446744073709551616 : Nat) = 256 ^ 8:=by decide
      rw [hx,getD_val (b:=B) (by decide) _ h3,h4,hk,show B = 256 ^ 8 from e1,← Nat.pow_mul,show 2 ^ (8 * (k % 8) + 8) = 256 ^ (k % 8 + 1) by rw [Nat.pow_add,hp8,Nat.pow_succ 256]]
      rw [show 256 ^ (k + 1) = 256 ^ (8 * (k / 8)) * 256 ^ (k % 8 + 1) by rw [← Nat.pow_add];congr 1;omega,Nat.mul_left_comm,Nat.mul_div_cancel_left _ (Nat.pow_pos (by decide)),Nat.mod_mod_of_dvd _ (Nat.pow_dvd_pow 256 (by omega)),Nat.mul_mod_left]
    have hor : x ||| c * 2 ^ (8 * (k % 8)) = x + c * 2 ^ (8 * (k % 8)):=or_low hxm hcs
    have hob : x ||| c * 2 ^ (8 * (k % 8)) < B:=Nat.or_lt_two_pow (n:=64) hx64 hc64
    rw [hor] at hob ⊢
    refine ⟨i + 1,o.set (k / 8) (x + c * 2 ^ (8 * (k % 8))),?_,⟨by omega,by simpa using h2,rng_set h3 hob,?_⟩,by omega⟩
    · (refine fz hS ?_ ?_;all_goals (repeat' (first | refine fJ ?_ ?_ | exact True.intro));all_goals (try (first | exact kv | (refine kW (ov_of lks) rfl ?_ ?_))))
      exact kO (by rw [ek8,Nat.zero_add];exact U_set _ _ _)
    · have e:=val_set B (l:=o) (j:=k / 8) (s:=x + c * 2 ^ (8 * (k % 8))) (by omega)
      rw [← hx,Nat.mul_add] at e
      have e2:=setbytes_step V (k + 1) (by omega)
      rw [Nat.add_sub_cancel,hd] at e2
      have e3 : B ^ (k / 8) * (c * 2 ^ (8 * (k % 8))) = c * 256 ^ k:=by
        rw [hp8,show B = 256 ^ 8 by decide,← Nat.pow_mul,Nat.mul_left_comm,← Nat.pow_add]
        congr 2;omega
      rw [show L - (i + 1) = k by omega,e2,← hk,← h4]
      omega
  · repeat refine gO ?_
    have hi : i = L:=by omega
    subst hi
    rw [Nat.sub_self,Nat.pow_zero,Nat.div_one,Nat.mul_one] at h4
    ((first | refine aw_fz 12 ?_ ?_ | refine awp_fz 12 ?_ ?_);rotate_left;· (repeat' (first | exact True.intro | refine And.intro ?_ ?_)) <;> first | (show _ ≤ _;simp;done) | (show _ ≤ _;simp;omega) | (show _ ≤ _;omega))
    refine aw_weak ⟨lk' [(40,ptr (.out z)),(41,us o)],ov [(.out z,.cells tBig ([a,b].map Leaf.cell))] (pushS S)⟩ ?_ ?_
    · (refine fz hS ?_ ?_;all_goals (repeat' (first | refine fJ ?_ ?_ | exact True.intro));all_goals (try (first | exact kv | (refine kW (ov_of lks) rfl ?_ ?_))))
      exact kI (by rw [List.drop_zero,U_take,take_all (by omega)])
    (refine zw ?_;refine s_proc (c_put (.out z) _ _ false o h3 (by omega)) ?_ (by intro p hp;first | (simp only [List.mem_singleton] at hp;subst hp;exact lks) | (simp only [List.mem_cons,List.not_mem_nil,or_false] at hp;rcases hp with rfl | rfl <;> exact lks)))
    repeat refine gO ?_
    (refine endP1 ttOk (fl':=[(4,ptr (.out z))]) (.inr rfl) hS lks nmX (by intro m hm;simp [lkS,addL,delL,Nm.isLoc,hm]) ?_ ?_ (by exact rfl) (by exact rfl) (by exact rfl))
    · rw [h4,hV];rfl
    · (repeat' (first | refine fJ ?_ ?_ | exact True.intro);all_goals (try (first | exact kv | (refine kW (ov_of lks) rfl ?_ ?_))))
end Go.Proofs

/-
  exact: Whole.
-/
namespace Go.Proofs
open Go Go.Abs Go.Nums
attribute [local irreducible] thenA blockA awp aw Stp EndF EndP EndN EndG aOps
set_option linter.unusedSimpArgs false
set_option maxHeartbeats 4000000

theorem val_rev_of {l : List Nat} {V : Nat} (h : ∀ j,j < l.length→l.getD j 0 = V / 256 ^ (l.length - 1 - j) % 256) : val 256 l.reverse = V % 256 ^ l.length:=by
  have:=val_of_getD (b:=256) (n:=V) (by decide) l.length l.reverse fun i hi=>by
    rw [getD_rev hi,h _ (by omega)];congr 3;omega
  rwa [take_all (by simp)] at this

theorem c_whole (l : List Nat) (hr : rng B l) (hl : l.length < 2 ^ 36) : ANew Tryz.prog 98 [us l] tBig (bL (val B l : Nat)):=by
  refine anew (mu:=muF) Tryz.func98 rfl (by decide) rfl (by decide) (Nat.le_of_ble_eq_true rfl) (by simp [nm0,AVal.at,AVal.at1,Cell.at]) fun S hS=>?_
  obtain ⟨V,hV⟩ : ∃ V,V = val B l:=⟨_,rfl⟩
  obtain ⟨L,hL⟩ : ∃ L,L = 8 * l.length:=⟨_,rfl⟩
  have hVlt : V < 256 ^ L:=by
    rw [hV,hL,Nat.pow_mul];exact val_lt hr
  have hUl:=U_len l
  repeat refine gO ?_
  have e1 : ((8 * ((U l).length : Int))).toNat = L:=by omega
  refine awp_rep2 (fun (i : Nat) (o : List Nat)=>⟨lk' [(0,us l),(3,.c (.win (.loc 9) 0 L L)),(11,iv L),(12,iv i)],ov [(.loc 9,ob8 o)] (pushS S)⟩)
    (fun i o=>i ≤ L∧o.length = L∧rng 256 o∧∀ j,j < i→o.getD j 0 = V / 256 ^ (L - 1 - j) % 256) (fun i _=>L - i)
    0 (List.replicate L 0) ⟨Nat.zero_le _,by simp,rng_rep (by decide) _,fun j hj=>by omega⟩ ?_ ?_
  · (refine fz hS ?_ ?_;all_goals (repeat' (first | refine fJ ?_ ?_ | exact True.intro));all_goals (try (first | exact kv | (refine kW (ov_of lks) rfl ?_ ?_))))
    exact kO (by rw [e1];exact U_rep _ 0)
  rintro i o ⟨h1,h2,h3,h4⟩
  have hUo:=U_len o
  repeat refine gO ?_
  (refine zw ?_;refine s_cmp (fun h5=>?_) (fun h5=>?_))
  · repeat refine gO ?_
    obtain ⟨k,hk⟩ : ∃ k,k = L - 1 - i:=⟨_,rfl⟩
    rw [show ((((L : Int) - 1 - i) / 8).toNat) = k / 8 by omega,U_get]
    have ei : (i : Int).toNat = i:=by omega
    obtain ⟨x,hx⟩ : ∃ x,x = l.getD (k / 8) 0:=⟨_,rfl⟩
    have hx64 : x < 18446744073709551616:=by rw [hx];exact getD_lt (b:=B) (by decide) hr _
    rw [← hx]
    (first | refine stp_shrN (x) (8 * (k % 8)) (by exact rfl) (by exact rfl) (by first | exact True.intro | omega | (simp only [and_true,List.length_map,List.length_replicate,List.length_set,List.length_append,List.length_cons,List.length_nil,List.length_take,List.length_drop] at *;omega)) (by first | exact True.intro | omega | (simp only [and_true,List.length_map,List.length_replicate,List.length_set,List.length_append,List.length_cons,List.length_nil,List.length_take,List.length_drop] at *;omega)) (by first | exact True.intro | omega | (simp only [and_true,List.length_map,List.length_replicate,List.length_set,List.length_append,List.length_cons,List.length_nil,List.length_take,List.length_drop] at *;omega)) ?_ | refine aw_cons (stp_shrN (x) (8 * (k % 8)) (by exact rfl) (by exact rfl) (by first | exact True.intro | omega | (simp only [and_true,List.length_map,List.length_replicate,List.length_set,List.length_append,List.length_cons,List.length_nil,List.length_take,List.length_drop] at *;omega)) (by first | exact True.intro | omega | (simp only [and_true,List.length_map,List.length_replicate,List.length_set,List.length_append,List.length_cons,List.length_nil,List.length_take,List.length_drop] at *;omega)) (by first | exact True.intro | omega | (simp only [and_true,List.length_map,List.length_replicate,List.length_set,List.length_append,List.length_cons,List.length_nil,List.length_take,List.length_drop] at *;omega)) ?_) | refine aOps_cons (stp_shrN (x) (8 * (k % 8)) (by exact rfl) (by exact rfl) (by first | exact True.intro | omega | (simp only [and_true,List.length_map,List.length_replicate,List.length_set,List.length_append,List.length_cons,List.length_nil,List.length_take,List.length_drop] at *;omega)) (by first | exact True.intro | omega | (simp only [and_true,List.length_map,List.length_replicate,List.length_set,List.length_append,List.length_cons,List.length_nil,List.length_take,List.length_drop] at *;omega)) (by first | exact True.intro | omega | (simp only [and_true,List.length_map,List.length_replicate,List.length_set,List.length_append,List.length_cons,List.length_nil,List.length_take,List.length_drop] at *;omega)) ?_))
    (refine zw ?_;refine stp_pure ttOk false (by exact rfl) (by first | exact True.intro | omega | (simp only [and_true,List.length_map,List.length_replicate,List.length_set,List.length_append,List.length_cons,List.length_nil,List.length_take,List.length_drop] at *;omega)) ?_)
    repeat refine gO ?_
    have hw : IntKind.u8.wrap ((x / 2 ^ (8 * (k % 8)) : Nat) : Int) = ((x / 2 ^ (8 * (k % 8)) % 256 : Nat) : Int):=by
      simp [IntKind.wrap,IntKind.bits,IntKind.signed]
    have hd : x / 2 ^ (8 * (k % 8)) % 256 = V / 256 ^ k % 256:=by
      rw [hx,getD_val (b:=B) (by decide) _ hr,← hV]
      have:=digit_sub V (k / 8) (k % 8) (by omega)
      rw [show 8 * (k / 8) + k % 8 = k by omega] at this
      exact this
    rw [hw,hd,ei,Nat.zero_add]
    refine ⟨i + 1,o.set i (V / 256 ^ k % 256),?_,⟨by omega,by simpa using h2,rng_set h3 (Nat.mod_lt _ (by decide)),fun j hj=>?_⟩,by omega⟩
    · (refine fz hS ?_ ?_;all_goals (repeat' (first | refine fJ ?_ ?_ | exact True.intro));all_goals (try (first | exact kv | (refine kW (ov_of lks) rfl ?_ ?_))))
      exact kO (U_set _ _ _)
    · rw [getD_set (by omega)]
      split
      · rename_i e;subst e;rw [hk]
      · exact h4 j (by omega)
  · repeat refine gO ?_
    have hi : i = L:=by omega
    subst hi
    have e : val 256 o.reverse = V:=by
      rw [val_rev_of (V:=V) (by rw [h2];exact h4),h2,Nat.mod_eq_of_lt hVlt]
    refine aw_weak ⟨lk' [(34,ptr (.loc 34)),(35,ub o)],ov [(.loc 34,.cells tBig ([.sc (.bool false),.sc (.slice none 0 0)].map Leaf.cell))] (pushS S)⟩ ?_ ?_
    · (refine fz hS ?_ ?_;all_goals (repeat' (first | refine fJ ?_ ?_ | exact True.intro));all_goals (try (first | exact kv | (refine kW (ov_of lks) rfl ?_ ?_))))
      · rw [U_len];omega
      · rw [List.drop_zero,U_take,take_all (by omega)]
    (refine zw ?_;refine s_proc (c_setbytes (.loc 34) _ _ o h3 (by omega)) ?_ (by intro p hp;first | (simp only [List.mem_singleton] at hp;subst hp;exact lks) | (simp only [List.mem_cons,List.not_mem_nil,or_false] at hp;rcases hp with rfl | rfl <;> exact lks)))
    rw [e,hV]
    repeat refine gO ?_
    (refine endN ttOk (l:=(.loc 34)) (fl':=[(2,ptr (.loc 34))]) (.inr rfl) hS (by exact rfl) (by exact rfl) ?_ ?_ (by exact rfl);all_goals (repeat' (first | refine fJ ?_ ?_ | exact True.intro);all_goals (try (first | exact kv | (refine kW (ov_of lks) rfl ?_ ?_)))))

theorem c_exint (s : Bool) (l : List Nat) (hr : rng B l) (hl : l.length < 2 ^ 36) (hs : s = true→val B l ≠ 0) : ANew Tryz.prog 51 [.agg [.sc (.bool s),.ints .u64 (U l)]] tBig (bL (sg s (val B l))):=by
  refine anew (mu:=muF) Tryz.func51 rfl (by decide) rfl (by decide) (Nat.le_of_ble_eq_true rfl) (by simp [nm0,AVal.at,AVal.at1,Cell.at]) fun S hS=>?_
  repeat refine gO ?_
  (refine zw ?_;refine s_new (c_whole l hr hl) ?_)
  repeat refine gO ?_
  have hlen : (digs B (val B l : Int).natAbs).length < 2 ^ 43:=by
    rw [Int.natAbs_natCast]
    exact Nat.lt_of_le_of_lt ((digs_len hB).2 (val_lt hr)) (by omega)
  cases s with
  | true =>
    repeat refine gO ?_
    (refine zw ?_;refine s_proc (c_neg (.loc 6) _ _ _ (val B l : Nat) (.self _ rfl rfl) hlen) ?_ (by intro p hp;first | (simp only [List.mem_singleton] at hp;subst hp;exact lks) | (simp only [List.mem_cons,List.not_mem_nil,or_false] at hp;rcases hp with rfl | rfl <;> exact lks)))
    repeat refine gO ?_
    (refine endN ttOk (l:=(.loc 6)) (fl':=[(2,ptr (.loc 6))]) (.inr rfl) hS (by exact rfl) (by exact rfl) ?_ ?_ (by exact rfl);all_goals (repeat' (first | refine fJ ?_ ?_ | exact True.intro);all_goals (try (first | exact kv | (refine kW (ov_of lks) rfl ?_ ?_)))))
  | false =>
    repeat refine gO ?_
    (refine endN ttOk (l:=(.loc 6)) (fl':=[(2,ptr (.loc 6))]) (.inr rfl) hS (by exact rfl) (by exact rfl) ?_ ?_ (by exact rfl);all_goals (repeat' (first | refine fJ ?_ ?_ | exact True.intro);all_goals (try (first | exact kv | (refine kW (ov_of lks) rfl ?_ ?_)))))
end Go.Proofs

/-
  exact: Limbs.
-/
namespace Go.Proofs
open Go Go.Abs Go.Nums
attribute [local irreducible] thenA blockA awp aw Stp EndF EndP EndN EndG aOps
set_option linter.unusedSimpArgs false
set_option maxHeartbeats 4000000

theorem fSA {S : Store} {B' : Store} {sl r : SL} {d : Nat} {ty : TypeId} {k : Nat} {R : List (List Cell)} (h2 : FrzS (ov sl (pushS S)) B' r) (hf : freeO sl d = true:=by exact rfl) (hR : R = []:=by first | rfl | simp [U]) : FrzS (ov sl (pushS S)) B' ((.loc d,.acc ty k R) :: r) :=
  ⟨.inr ⟨fun o ho=>(by rw [freeO_spec hf] at ho;cases ho),_,_,by rw [hR]⟩,h2⟩
theorem kNA {A C : Store} {m : Nm} {ty : TypeId} {k n : Nat} {R : List (List Cell)} (h : C m = some (.acc ty k R)) (hR : R = []:=by first | rfl | simp [U]) (hn : n = 0:=by first | rfl | simp) : FrzV A C nils (.accv m n):=by subst hR hn;exact .nilA h

theorem take_snoc {l : List Nat} {i : Nat} (h : i < l.length) : l.take (i + 1) = l.take i ++ [l.getD i 0]:=by
  rw [List.take_add_one,List.getElem?_eq_getElem h,List.getD_eq_getElem?_getD,List.getElem?_eq_getElem h];rfl

theorem c_abs2 (z x : Nm) (hzx : z ≠ x) (a b : Leaf) (n : Int) (hn : (digs B n.natAbs).length < 2 ^ 43) :
    AProc Tryz.prog 137 [ptr z,ptr x] [(z,.cells tBig ([a,b].map Leaf.cell)),(x,bo n)] [(z,bo n.natAbs),(x,bo n)] (ptr z):=by
  (refine aproc2 (mu:=muF) hzx Tryz.func137 rfl (by decide) rfl (by decide) (Nat.le_of_ble_eq_true rfl) (by simp [AVal.at,AVal.at1,Cell.at] <;> grind) (by simp [AVal.at,AVal.at1,Cell.at]) (by simp [AVal.at,AVal.at1,Cell.at]) (by simp [AVal.at,AVal.at1,Cell.at] <;> grind) nmX nmX nmX nmX fun S hS=>?_;simp only [List.map_cons,List.map_nil,AVal.map,AVal.map1,Cell.map])
  repeat refine gO ?_
  (refine zw ?_;refine s_call (c_clone (digs B n.natAbs) hn) ?_)
  repeat refine gO ?_
  (refine zw ?_;refine s_proc (c_putD (.out z) _ _ false n.natAbs (by omega)) ?_ (by intro p hp;first | (simp only [List.mem_singleton] at hp;subst hp;exact lks) | (simp only [List.mem_cons,List.not_mem_nil,or_false] at hp;rcases hp with rfl | rfl <;> exact lks)))
  repeat refine gO ?_
  (refine endP2 ttOk (fl':=[(4,ptr (.out z))]) (.inr rfl) hS hzx lks lks nmX nmX (by intro m hm hm2;simp [lkS,addL,delL,Nm.isLoc,hm,hm2]) ?_ ?_ ?_ (by exact rfl) (by exact rfl) (by exact rfl))
  · rfl
  · rfl
  · (repeat' (first | refine fJ ?_ ?_ | exact True.intro);all_goals (try (first | exact kv | (refine kW (ov_of lks) rfl ?_ ?_))))

theorem c_limbs (n : Int) (hn : (digs B n.natAbs).length < 2 ^ 37) : AFun Tryz.prog 96 [bp n] (us (digs B n.natAbs)):=by
  refine aF (mu:=muF) Tryz.func96 fun S hS=>?_
  obtain ⟨N,hN⟩ : ∃ N,N = n.natAbs:=⟨_,rfl⟩
  repeat refine gO ?_
  (refine zw ?_;refine s_proc (c_abs (.loc 9) (.sc (.bool false)) (.sc (.slice none 0 0)) _ n (.im n) (by omega)) ?_ (by intro p hp;first | (simp only [List.mem_singleton] at hp;subst hp;exact lks) | (simp only [List.mem_cons,List.not_mem_nil,or_false] at hp;rcases hp with rfl | rfl <;> exact lks)))
  ((first | refine aw_fz 9 ?_ ?_ | refine awp_fz 9 ?_ ?_);rotate_left;· (repeat' (first | exact True.intro | refine And.intro ?_ ?_)) <;> first | (show _ ≤ _;simp;done) | (show _ ≤ _;simp;omega) | (show _ ≤ _;omega))
  have hcb:=c_bytes (n.natAbs : Nat) (by rw [Int.natAbs_natCast];omega)
  rw [Int.natAbs_natCast] at hcb
  (refine zw ?_;refine s_call (hcb) ?_)
  rw [← hN] at hn ⊢
  repeat refine gO ?_
  obtain ⟨L,hL⟩ : ∃ L,L = (bsOf N).length:=⟨_,rfl⟩
  have hUb:=U_len (bsOf N)
  have hbl:=bs_len N
  have hb64 : blen N ≤ 64 * (digs B N).length:=by rw [blen_le,Nat.pow_mul];exact digs_lt hB N
  have hrb : rng 256 (bsOf N):=rng_rev (rng_digs h256 N)
  have hLd : (digs 256 N).length = L:=by rw [hL,bsOf,List.length_reverse]
  have hget : ∀ j,j < L→(bsOf N).getD j 0 = N / 256 ^ (L - 1 - j) % 256:=fun j hj=>by
    rw [bsOf,getD_rev (by omega),getD_val (b:=256) (by decide) _ (rng_digs h256 N),val_digs h256,hLd]
  have hB8 : ∀ k,256 ^ (8 * k) = B ^ k:=fun k=>by rw [Nat.pow_mul]
  refine awp_rep2 (fun (k : Nat) (o : List Nat)=>⟨lk' [(3,.accv (.loc 39) o.length),(4,ub (bsOf N)),(5,ivl .i64 ((L : Int) - 8 * k))],ov [(.loc 39,.accI 55 .u64 (U o))] (pushS S)⟩)
    (fun k o=>o.length = k∧rng B o∧val B o = N % B ^ k∧8 * k ≤ L + 7) (fun k _=>L + 8 - 8 * k)
    0 [] ⟨rfl,rng_nil,by simp [val,Nat.mod_one],by omega⟩ ?_ ?_
  · refine frz hS (by exact rfl) (fSA trivial) ?_
    (repeat' (first | refine fJ ?_ ?_ | exact True.intro);all_goals (try (first | exact kv | (refine kW (ov_of lks) rfl ?_ ?_))))
    exact kNA (ov_of lks)
  rintro k o ⟨h1,h2,h3,h4⟩
  have hUo:=U_len o
  repeat refine gO ?_
  (refine zw ?_;refine s_cmp (fun h5=>?_) (fun h5=>?_))
  · repeat refine gO ?_
    obtain ⟨e,he⟩ : ∃ e,e = L - 8 * k:=⟨_,rfl⟩
    obtain ⟨lo,hlo⟩ : ∃ lo,lo = e - 8:=⟨_,rfl⟩
    obtain ⟨ch,hch⟩ : ∃ ch,ch = ((bsOf N).drop lo).take (e - lo):=⟨_,rfl⟩
    have hchl : ch.length = e - lo:=by rw [hch];simp;omega
    have hchr : rng 256 ch:=by rw [hch];exact rng_take (rng_drop hrb _) _
    have e1 : ((L : Int) - 8 * k).toNat = e:=by omega
    have e2 : (if (L : Int) - 8 * k - 8 < 0 then (0 : Int) else (L : Int) - 8 * k - 8).toNat = lo:=by split <;> omega
    have e3 : List.take (e - lo) (List.drop lo (U (bsOf N))) = U ch:=by rw [U_drop,U_take,hch]
    have hUc:=U_len ch
    rw [e1,e2,e3]
    have hcv : val 256 ch.reverse = N / B ^ k % B:=by
      have hg : ∀ j,j < ch.length→ch.getD j 0 = (N / 256 ^ (8 * k)) / 256 ^ (ch.length - 1 - j) % 256:=fun j hj=>by
        rw [hch,List.getD_eq_getElem?_getD,List.getElem?_take_of_lt (by omega),List.getElem?_drop,← List.getD_eq_getElem?_getD,hget _ (by omega),Nat.div_div_eq_div_mul,← Nat.pow_add,← hch]
        congr 3;omega
      rw [val_rev_of hg,hchl,hB8]
      by_cases h8 : 8 ≤ e
      · rw [show e - lo = 8 by omega]
      · have hN : N < 256 ^ L:=by rw [← hLd];exact digs_lt h256 N
        have hlt : N / B ^ k < 256 ^ (e - lo):=by
          rw [Nat.div_lt_iff_lt_mul (Nat.pow_pos (by decide)),← hB8,← Nat.pow_add,show e - lo + 8 * k = L by omega];exact hN
        have hlt2 : N / B ^ k < B:=Nat.lt_of_lt_of_le hlt (by rw [show B = 256 ^ 8 by decide];exact Nat.pow_le_pow_right (by decide) (by omega))
        rw [Nat.mod_eq_of_lt hlt,Nat.mod_eq_of_lt hlt2]
    refine awp_midB (fun st=>Weak st ⟨lk' [(3,.accv (.loc 39) o.length),(4,ub (bsOf N)),(5,ivl .i64 ((L : Int) - 8 * k)),(6,uv (val 256 ch.reverse))],ov [(.loc 39,.accI 55 .u64 (U o))] (pushS S)⟩) ?_ ?_
    · refine awp_rep (ι:=Nat) (fun i=>⟨lk' [(3,.accv (.loc 39) o.length),(4,ub (bsOf N)),(5,ivl .i64 ((L : Int) - 8 * k)),(6,uv (val 256 (ch.take i).reverse)),(24,ub ch),(25,iv ch.length),(26,iv i)],ov [(.loc 39,.accI 55 .u64 (U o))] (pushS S)⟩)
        (fun i=>i ≤ ch.length) (fun i=>ch.length - i) 0 (Nat.zero_le _) ?_ ?_
      · (refine fz hS ?_ ?_;all_goals (repeat' (first | refine fJ ?_ ?_ | exact True.intro));all_goals (try (first | exact kv | (refine kW (ov_of lks) rfl ?_ ?_))))
      intro i hi
      repeat refine gO ?_
      (refine zw ?_;refine s_cmp (fun h6=>?_) (fun h6=>?_))
      · repeat refine gO ?_
        have ei : (i : Int).toNat = i:=by omega
        obtain ⟨c,hc⟩ : ∃ c,c = ch.getD i 0:=⟨_,rfl⟩
        have hc8 : c < 256:=by rw [hc];exact getD_lt (by decide) hchr _
        obtain ⟨x,hx⟩ : ∃ x,x = val 256 (ch.take i).reverse:=⟨_,rfl⟩
        have hx56 : x < 256 ^ 7:=by
          have h7:=val_lt (rng_rev (rng_take hchr i))
          rw [List.length_reverse] at h7
          rw [hx]
          exact Nat.lt_of_lt_of_le h7 (Nat.pow_le_pow_right (by decide) (by simp;omega))
        have hx64 : x * 256 < 18446744073709551616:=by
          rw [show (256 : Nat) ^ 7 = 72057594037927936 by decide] at hx56;omega
        rw [ei,U_get,← hc,← hx]
        (first | refine stp_shlN (x) (8) (by exact rfl) (by exact rfl) (by first | exact True.intro | omega | (simp only [and_true,List.length_map,List.length_replicate,List.length_set,List.length_append,List.length_cons,List.length_nil,List.length_take,List.length_drop] at *;omega)) (by first | exact True.intro | omega | (simp only [and_true,List.length_map,List.length_replicate,List.length_set,List.length_append,List.length_cons,List.length_nil,List.length_take,List.length_drop] at *;omega)) ?_ | refine aw_cons (stp_shlN (x) (8) (by exact rfl) (by exact rfl) (by first | exact True.intro | omega | (simp only [and_true,List.length_map,List.length_replicate,List.length_set,List.length_append,List.length_cons,List.length_nil,List.length_take,List.length_drop] at *;omega)) (by first | exact True.intro | omega | (simp only [and_true,List.length_map,List.length_replicate,List.length_set,List.length_append,List.length_cons,List.length_nil,List.length_take,List.length_drop] at *;omega)) ?_) | refine aOps_cons (stp_shlN (x) (8) (by exact rfl) (by exact rfl) (by first | exact True.intro | omega | (simp only [and_true,List.length_map,List.length_replicate,List.length_set,List.length_append,List.length_cons,List.length_nil,List.length_take,List.length_drop] at *;omega)) (by first | exact True.intro | omega | (simp only [and_true,List.length_map,List.length_replicate,List.length_set,List.length_append,List.length_cons,List.length_nil,List.length_take,List.length_drop] at *;omega)) ?_))
        rw [show x * 2 ^ 8 = x * 256 from rfl,Nat.mod_eq_of_lt hx64]
        repeat refine gO ?_
        (first | refine stp_orN (x * 256) (c) (by exact rfl) (by exact rfl) (by first | exact True.intro | omega | (simp only [and_true,List.length_map,List.length_replicate,List.length_set,List.length_append,List.length_cons,List.length_nil,List.length_take,List.length_drop] at *;omega)) (by first | exact True.intro | omega | (simp only [and_true,List.length_map,List.length_replicate,List.length_set,List.length_append,List.length_cons,List.length_nil,List.length_take,List.length_drop] at *;omega)) (by first | exact True.intro | omega | (simp only [and_true,List.length_map,List.length_replicate,List.length_set,List.length_append,List.length_cons,List.length_nil,List.length_take,List.length_drop] at *;omega)) (by first | exact True.intro | omega | (simp only [and_true,List.length_map,List.length_replicate,List.length_set,List.length_append,List.length_cons,List.length_nil,List.length_take,List.length_drop] at *;omega)) ?_ | refine aw_cons (stp_orN (x * 256) (c) (by exact rfl) (by exact rfl) (by first | exact True.intro | omega | (simp only [and_true,List.length_map,List.length_replicate,List.length_set,List.length_append,List.length_cons,List.length_nil,List.length_take,List.length_drop] at *;omega)) (by first | exact True.intro | omega | (simp only [and_true,List.length_map,List.length_replicate,List.length_set,List.length_append,List.length_cons,List.length_nil,List.length_take,List.length_drop] at *;omega)) (by first | exact True.intro | omega | (simp only [and_true,List.length_map,List.length_replicate,List.length_set,List.length_append,List.length_cons,List.length_nil,List.length_take,List.length_drop] at *;omega)) (by first | exact True.intro | omega | (simp only [and_true,List.length_map,List.length_replicate,List.length_set,List.length_append,List.length_cons,List.length_nil,List.length_take,List.length_drop] at *;omega)) ?_) | refine aOps_cons (stp_orN (x * 256) (c) (by exact rfl) (by exact rfl) (by first | exact True.intro | omega | (simp only [and_true,List.length_map,List.length_replicate,List.length_set,List.length_append,List.length_cons,List.length_nil,List.length_take,List.length_drop] at *;omega)) (by first | exact True.intro | omega | (simp only [and_true,List.length_map,List.length_replicate,List.length_set,List.length_append,List.length_cons,List.length_nil,List.length_take,List.length_drop] at *;omega)) (by first | exact True.intro | omega | (simp only [and_true,List.length_map,List.length_replicate,List.length_set,List.length_append,List.length_cons,List.length_nil,List.length_take,List.length_drop] at *;omega)) (by first | exact True.intro | omega | (simp only [and_true,List.length_map,List.length_replicate,List.length_set,List.length_append,List.length_cons,List.length_nil,List.length_take,List.length_drop] at *;omega)) ?_))
        repeat refine gO ?_
        have hor : x * 256 ||| c = x * 256 + c:=or_low (k:=8) (by rw [show (2 : Nat) ^ 8 = 256 from rfl];exact Nat.mul_mod_left _ _) hc8
        refine ⟨i + 1,?_,by omega,by omega⟩
        (refine fz hS ?_ ?_;all_goals (repeat' (first | refine fJ ?_ ?_ | exact True.intro));all_goals (try (first | exact kv | (refine kW (ov_of lks) rfl ?_ ?_))))
        refine kN ?_
        rw [hor,take_snoc (by omega),← hc,List.reverse_append,List.reverse_singleton,List.singleton_append,val_cons,← hx,Nat.mul_comm 256,Nat.add_comm c]
      · repeat refine gO ?_
        have : i = ch.length:=by omega
        subst this
        rw [take_all (Nat.le_refl _)]
        (refine fz hS ?_ ?_;all_goals (repeat' (first | refine fJ ?_ ?_ | exact True.intro));all_goals (try (first | exact kv | (refine kW (ov_of lks) rfl ?_ ?_))))
    intro st hst
    refine awp_weak _ hst ?_
    clear hst st
    repeat refine gO ?_
    (refine zw ?_;refine s_app8 ttOk (Y:=[((val 256 ch.reverse : Nat) : Int)]) ?_ ?_ ?_;(· exact srcE_win (L:=[((val 256 ch.reverse : Nat) : Int)]) lks (by simp));(· simp only [List.length_append,List.length_nil,List.length_cons] at *;omega))
    repeat refine gO ?_
    have hkl : k ≤ 2 ^ 40:=by omega
    refine ⟨k + 1,o ++ [val 256 ch.reverse],?_,⟨by simp [h1],rng_append.2 ⟨h2,by intro x hx;simp only [List.mem_singleton] at hx;subst hx;rw [hcv];exact Nat.mod_lt _ (by decide)⟩,?_,by omega⟩,by omega⟩
    · (refine fz hS ?_ ?_;all_goals (repeat' (first | refine fJ ?_ ?_ | exact True.intro));all_goals (try (first | exact kv | (refine kW (ov_of lks) rfl ?_ ?_))))
      · exact kA (by simp [U])
    · rw [val_snoc,h1,h3,hcv,Nat.pow_succ,Nat.mod_mul]
  · repeat refine gO ?_
    have hNk : N < B ^ k:=by
      have h7 : N < 256 ^ L:=by rw [← hLd];exact digs_lt h256 N
      rw [← hB8]
      exact Nat.lt_of_lt_of_le h7 (Nat.pow_le_pow_right (by decide) (by omega))
    rw [Nat.mod_eq_of_lt hNk] at h3
    have e : o = digs B N:=by
      refine val_inj (b:=B) (by decide) h2 (rng_digs hB N) ?_ (by rw [h3,val_digs hB])
      refine Nat.le_antisymm ?_ (by rw [h1];exact (digs_len hB).2 hNk)
      rw [h1]
      rcases Nat.eq_zero_or_pos k with q | q
      · omega
      · refine Nat.le_of_not_lt fun g=>?_
        have g2:=(digs_len hB (n:=N) (k:=k - 1)).1 (by omega)
        rw [← hB8] at g2
        have g3:=(digs_len h256 (n:=N) (k:=8 * (k - 1))).2 g2
        omega
    rw [← e]
    (refine eF hS ?_ (fl':=[(2,us o)]);(repeat' (first | refine fJ ?_ ?_ | exact True.intro);all_goals (try (first | exact kv | (refine kW (ov_of lks) rfl ?_ ?_)))))
    exact kAcc (ov_of lks) rfl rfl
end Go.Proofs

/-
  limb: Right.
-/
namespace Go.Proofs
open Go Go.Abs Go.Nums
attribute [local irreducible] thenA blockA awp aw Stp EndF EndP EndN EndG aOps
set_option linter.unusedSimpArgs false
set_option maxHeartbeats 4000000

def rightB (s : Bool) (l : List Nat) : Bool:=if l.length = 0 then !s else decide (l.length ≤ 4096∧l.getD (l.length - 1) 0 ≠ 0)

theorem c_right13 (s : Bool) (l : List Nat) (hl : l.length < 2 ^ 60) : AFun Tryz.prog 88 [wi s l] (bvl (rightB s l)):=by
  refine aF (mu:=muF) Tryz.func88 fun S hS=>?_
  have hU:=U_len l
  repeat refine gO ?_
  (refine zw ?_;refine s_cmp (fun h1=>?_) (fun h1=>?_))
  · have h0 : l.length = 0:=by omega
    cases s with
    | false =>
      repeat refine gO ?_
      (refine eF hS ?_ (fl':=[(2,bvl (rightB false l))]);(repeat' (first | refine fJ ?_ ?_ | exact True.intro);all_goals (try (first | exact kv | (refine kW (ov_of lks) rfl ?_ ?_)))))
      all_goals exact kB (by simp [rightB,h0])
    | true =>
      repeat refine gO ?_
      (refine zw ?_;refine s_cmp (fun h2=>?_) (fun h2=>?_))
      · exact absurd h2 (by omega)
      repeat refine gO ?_
      (refine eF hS ?_ (fl':=[(2,bvl (rightB true l))]);(repeat' (first | refine fJ ?_ ?_ | exact True.intro);all_goals (try (first | exact kv | (refine kW (ov_of lks) rfl ?_ ?_)))))
      all_goals exact kB (by simp [rightB,h0])
  · have h0 : l.length ≠ 0:=by omega
    repeat refine gO ?_
    (refine zw ?_;refine s_cmp (fun h2=>?_) (fun h2=>?_))
    · repeat refine gO ?_
      (refine zw ?_;refine s_cmp (fun h3=>?_) (fun h3=>?_))
      · repeat refine gO ?_
        rw [show (((U l).length : Int) - 1).toNat = l.length - 1 by omega,U_get]
        (refine zw ?_;refine s_cmp (fun h4=>?_) (fun h4=>?_))
        · repeat refine gO ?_
          (refine eF hS ?_ (fl':=[(2,bvl (rightB s l))]);(repeat' (first | refine fJ ?_ ?_ | exact True.intro);all_goals (try (first | exact kv | (refine kW (ov_of lks) rfl ?_ ?_)))))
          all_goals exact kB (by rw [rightB,if_neg h0,decide_eq_true ⟨by omega,by omega⟩])
        · repeat refine gO ?_
          (refine eF hS ?_ (fl':=[(2,bvl (rightB s l))]);(repeat' (first | refine fJ ?_ ?_ | exact True.intro);all_goals (try (first | exact kv | (refine kW (ov_of lks) rfl ?_ ?_)))))
          all_goals exact kB (by rw [rightB,if_neg h0,decide_eq_false (fun q=>by omega)])
      · repeat refine gO ?_
        (refine eF hS ?_ (fl':=[(2,bvl (rightB s l))]);(repeat' (first | refine fJ ?_ ?_ | exact True.intro);all_goals (try (first | exact kv | (refine kW (ov_of lks) rfl ?_ ?_)))))
        all_goals exact kB (by rw [rightB,if_neg h0,decide_eq_false (fun q=>by omega)])
    · exact absurd h2 (by omega)
end Go.Proofs

/-
  recip: wrong, one.
-/
namespace Go.Proofs
open Go Go.Abs Go.Nums
attribute [local irreducible] thenA blockA awp aw Stp EndF EndP EndN EndG aOps
set_option linter.unusedSimpArgs false
set_option maxHeartbeats 4000000

end Go.Proofs

/-
  big, exact: Sign, Limbs, Told of a number in a tracked block.
-/
namespace Go.Proofs
open Go Go.Abs Go.Nums
attribute [local irreducible] thenA blockA awp aw Stp EndF EndP EndN EndG aOps
set_option linter.unusedSimpArgs false
set_option maxHeartbeats 4000000

end Go.Proofs

/-
  exact: Told, of a number in a tracked block; recip: told.
-/
namespace Go.Proofs
open Go Go.Abs Go.Nums
attribute [local irreducible] thenA blockA awp aw Stp EndF EndP EndN EndG aOps
set_option linter.unusedSimpArgs false
set_option maxHeartbeats 4000000

abbrev wz (n : Int) : AVal:=wi (decide (n < 0)) (digs B n.natAbs)
abbrev w0 : AVal:=.agg [.sc (.bool false),.ints .u64 []]

theorem wz_neg {n : Int} (h : n < 0) : wz n = wi true (digs B n.natAbs):=by simp [h]
theorem wz_pos {n : Int} (h : ¬ n < 0) : wz n = wi false (digs B n.natAbs):=by simp [h]

end Go.Proofs

/-
  big: Set, Cmp, Bit, Uint64, Int64.
-/
namespace Go.Proofs
open Go Go.Abs Go.Nums
attribute [local irreducible] thenA blockA awp aw Stp EndF EndP EndN aOps
set_option linter.unusedSimpArgs false
set_option maxHeartbeats 4000000

theorem digs_getD {b : Nat} (hb : 2 ≤ b) : ∀ (i n : Nat),(digs b n).getD i 0 = n / b ^ i % b
  | i,n=>by
    by_cases hn : n = 0
    · subst hn;simp [digs_zero]
    · rw [digs_pos hb hn]
      cases i with
      | zero=>simp
      | succ i =>
        rw [List.getD_cons_succ,digs_getD hb i (n / b),Nat.div_div_eq_div_mul,Nat.pow_succ,Nat.mul_comm b]

theorem c_set (z : Nm) (a b : Leaf) (xv : AVal) (n : Int) (hx : BArg z a b xv n) (hn : (digs B n.natAbs).length < 2 ^ 43) :
    AProc Tryz.prog 111 [ptr z,xv] [(z,.cells tBig ([a,b].map Leaf.cell))] [(z,bo n)] (ptr z):=by
  rcases hx with _ | ⟨_,rfl,rfl⟩ <;>
  · (refine aproc1 (mu:=muF) Tryz.func111 rfl (by decide) rfl (by decide) (Nat.le_of_ble_eq_true rfl) (by simp [AVal.at,AVal.at1,Cell.at]) (by simp [AVal.at,AVal.at1,Cell.at]) (by simp [AVal.at,AVal.at1,Cell.at]) nmX nmX fun S hS=>?_;simp only [List.map_cons,List.map_nil,AVal.map,AVal.map1,Cell.map])
    repeat refine gO ?_
    (refine zw ?_;refine s_call (c_clone (digs B n.natAbs) hn) ?_)
    repeat refine gO ?_
    (refine zw ?_;refine s_proc (c_putD (.out z) _ _ (decide (n < 0)) n.natAbs (by omega)) ?_ (by intro p hp;first | (simp only [List.mem_singleton] at hp;subst hp;exact lks) | (simp only [List.mem_cons,List.not_mem_nil,or_false] at hp;rcases hp with rfl | rfl <;> exact lks)))
    repeat refine gO ?_
    (refine endP1 ttOk (fl':=[(4,ptr (.out z))]) (.inr rfl) hS lks nmX (by intro m hm;simp [lkS,addL,delL,Nm.isLoc,hm]) ?_ ?_ (by exact rfl) (by exact rfl) (by exact rfl))
    · rw [sg_same]
    · (repeat' (first | refine fJ ?_ ?_ | exact True.intro);all_goals (try (first | exact kv | (refine kW (ov_of lks) rfl ?_ ?_))))

def cmpI (n m : Int) : Int:=if n < m then -1 else if n = m then 0 else 1

theorem c_cmp (n m : Int) (hn : (digs B n.natAbs).length < 2 ^ 40) (hm : (digs B m.natAbs).length < 2 ^ 40) : AFun Tryz.prog 114 [bp n,bp m] (ivl .i64 (cmpI n m)):=by
  have key : ∀ s t,s = decide (n < 0)→t = decide (m < 0)→AFun Tryz.prog 114 [.c (.pim [.sc (.bool s),.ints .u64 (U (digs B n.natAbs))]),.c (.pim [.sc (.bool t),.ints .u64 (U (digs B m.natAbs))])] (ivl .i64 (cmpI n m)):=?_
  · exact key _ _ rfl rfl
  intro s t hs ht
  refine aF (mu:=muF) Tryz.func114 fun S hS=>?_
  cases s <;> cases t <;> (have h1:=hs.symm;have h2:=ht.symm;simp only [decide_eq_true_eq,decide_eq_false_iff_not] at h1 h2)
  rotate_left 3
  · repeat refine gO ?_
    (refine zw ?_;refine s_call (c_compare _ _ hm hn) ?_)
    repeat refine gO ?_
    (refine eF hS ?_ (fl':=[(4,ivl .i64 (cmpI n m))]);(repeat' (first | refine fJ ?_ ?_ | exact True.intro);all_goals (try (first | exact kv | (refine kW (ov_of lks) rfl ?_ ?_)))))
    refine kN ?_
    unfold cmpI cmpN
    split
    · rw [if_pos (by omega)]
    · split
      · rw [if_neg (by omega),if_neg (by omega)]
      · rw [if_neg (by omega),if_pos (by omega)]
  · repeat refine gO ?_
    (refine zw ?_;refine s_call (c_compare _ _ hn hm) ?_)
    repeat refine gO ?_
    (refine eF hS ?_ (fl':=[(4,ivl .i64 (cmpI n m))]);(repeat' (first | refine fJ ?_ ?_ | exact True.intro);all_goals (try (first | exact kv | (refine kW (ov_of lks) rfl ?_ ?_)))))
    refine kN ?_
    unfold cmpI cmpN
    split
    · rw [if_pos (by omega)]
    · split
      · rw [if_neg (by omega),if_neg (by omega)]
      · rw [if_neg (by omega),if_pos (by omega)]
  · repeat refine gO ?_
    (refine eF hS ?_ (fl':=[(4,ivl .i64 (cmpI n m))]);(repeat' (first | refine fJ ?_ ?_ | exact True.intro);all_goals (try (first | exact kv | (refine kW (ov_of lks) rfl ?_ ?_)))))
    exact kN (by unfold cmpI;rw [if_neg (by omega),if_neg (by omega)])
  · repeat refine gO ?_
    (refine eF hS ?_ (fl':=[(4,ivl .i64 (cmpI n m))]);(repeat' (first | refine fJ ?_ ?_ | exact True.intro);all_goals (try (first | exact kv | (refine kW (ov_of lks) rfl ?_ ?_)))))
    exact kN (by unfold cmpI;rw [if_pos (by omega)])

theorem bit_pow (n i : Nat) : n / B ^ (i / 64) % B / 2 ^ (i % 64) % 2 = n / 2 ^ i % 2:=by
  obtain ⟨q,hq⟩ : ∃ q,q = n / B ^ (i / 64):=⟨_,rfl⟩
  have e : n / 2 ^ i = q / 2 ^ (i % 64):=by
    rw [hq,Nat.div_div_eq_div_mul,show B = 2 ^ 64 from rfl,← Nat.pow_mul,← Nat.pow_add,Nat.div_add_mod]
  have e2 : B = 2 ^ (i % 64) * (2 * 2 ^ (63 - i % 64)):=by
    rw [show B = 2 ^ 64 from rfl,← Nat.pow_succ',← Nat.pow_add];congr 1;omega
  rw [← hq,e,e2,Nat.mod_mul_right_div_self,Nat.mod_mul_right_mod]

theorem c_bit (n : Int) (i : Nat) (hn : (digs B n.natAbs).length < 2 ^ 40) (hi : i < 2 ^ 60) : AFun Tryz.prog 56 [bp n,iv i] (uv (n.natAbs / 2 ^ i % 2)):=by
  refine aF (mu:=muF) Tryz.func56 fun S hS=>?_
  have hU:=U_len (digs B n.natAbs)
  repeat refine gN ?_
  (refine zw ?_;refine s_cmp (fun h=>?_) (fun h=>?_))
  · repeat refine gN ?_
    (refine eF hS ?_ (fl':=[(4,uv (n.natAbs / 2 ^ i % 2))]);(repeat' (first | refine fJ ?_ ?_ | exact True.intro);all_goals (try (first | exact kv | (refine kW (ov_of lks) rfl ?_ ?_)))))
    refine kN ?_
    have h2:=(digs_len hB (n:=n.natAbs) (k:=i / 64)).1 (by omega)
    have h3 : n.natAbs < 2 ^ i:=Nat.lt_of_lt_of_le h2 (by rw [show B = 2 ^ 64 from rfl,← Nat.pow_mul];exact Nat.pow_le_pow_right (by decide) (by omega))
    rw [Nat.div_eq_of_lt h3]
    rfl
  · repeat refine gN ?_
    have hg:=digs_getD hB (i / 64) n.natAbs
    have hlt : (digs B n.natAbs).getD (i / 64) 0 < 18446744073709551616:=by rw [hg];exact Nat.mod_lt _ (by decide)
    (first | refine stp_shrN ((digs B n.natAbs).getD (i / 64) 0) (i % 64) (by exact rfl) (by exact rfl) (by first | exact True.intro | omega | (simp only [and_true,List.length_map,List.length_replicate,List.length_set,List.length_append,List.length_cons,List.length_nil,List.length_take,List.length_drop] at *;omega)) (by first | exact True.intro | omega | (simp only [and_true,List.length_map,List.length_replicate,List.length_set,List.length_append,List.length_cons,List.length_nil,List.length_take,List.length_drop] at *;omega)) (by first | exact True.intro | omega | (simp only [and_true,List.length_map,List.length_replicate,List.length_set,List.length_append,List.length_cons,List.length_nil,List.length_take,List.length_drop] at *;omega)) ?_ | refine aw_cons (stp_shrN ((digs B n.natAbs).getD (i / 64) 0) (i % 64) (by exact rfl) (by exact rfl) (by first | exact True.intro | omega | (simp only [and_true,List.length_map,List.length_replicate,List.length_set,List.length_append,List.length_cons,List.length_nil,List.length_take,List.length_drop] at *;omega)) (by first | exact True.intro | omega | (simp only [and_true,List.length_map,List.length_replicate,List.length_set,List.length_append,List.length_cons,List.length_nil,List.length_take,List.length_drop] at *;omega)) (by first | exact True.intro | omega | (simp only [and_true,List.length_map,List.length_replicate,List.length_set,List.length_append,List.length_cons,List.length_nil,List.length_take,List.length_drop] at *;omega)) ?_) | refine aOps_cons (stp_shrN ((digs B n.natAbs).getD (i / 64) 0) (i % 64) (by exact rfl) (by exact rfl) (by first | exact True.intro | omega | (simp only [and_true,List.length_map,List.length_replicate,List.length_set,List.length_append,List.length_cons,List.length_nil,List.length_take,List.length_drop] at *;omega)) (by first | exact True.intro | omega | (simp only [and_true,List.length_map,List.length_replicate,List.length_set,List.length_append,List.length_cons,List.length_nil,List.length_take,List.length_drop] at *;omega)) (by first | exact True.intro | omega | (simp only [and_true,List.length_map,List.length_replicate,List.length_set,List.length_append,List.length_cons,List.length_nil,List.length_take,List.length_drop] at *;omega)) ?_))
    have hlt2 : (digs B n.natAbs).getD (i / 64) 0 / 2 ^ (i % 64) < 18446744073709551616:=Nat.lt_of_le_of_lt (Nat.div_le_self _ _) hlt
    (first | refine stp_andN ((digs B n.natAbs).getD (i / 64) 0 / 2 ^ (i % 64)) (1) (by exact rfl) (by exact rfl) (by first | exact True.intro | omega | (simp only [and_true,List.length_map,List.length_replicate,List.length_set,List.length_append,List.length_cons,List.length_nil,List.length_take,List.length_drop] at *;omega)) (by first | exact True.intro | omega | (simp only [and_true,List.length_map,List.length_replicate,List.length_set,List.length_append,List.length_cons,List.length_nil,List.length_take,List.length_drop] at *;omega)) (by first | exact True.intro | omega | (simp only [and_true,List.length_map,List.length_replicate,List.length_set,List.length_append,List.length_cons,List.length_nil,List.length_take,List.length_drop] at *;omega)) (by first | exact True.intro | omega | (simp only [and_true,List.length_map,List.length_replicate,List.length_set,List.length_append,List.length_cons,List.length_nil,List.length_take,List.length_drop] at *;omega)) ?_ | refine aw_cons (stp_andN ((digs B n.natAbs).getD (i / 64) 0 / 2 ^ (i % 64)) (1) (by exact rfl) (by exact rfl) (by first | exact True.intro | omega | (simp only [and_true,List.length_map,List.length_replicate,List.length_set,List.length_append,List.length_cons,List.length_nil,List.length_take,List.length_drop] at *;omega)) (by first | exact True.intro | omega | (simp only [and_true,List.length_map,List.length_replicate,List.length_set,List.length_append,List.length_cons,List.length_nil,List.length_take,List.length_drop] at *;omega)) (by first | exact True.intro | omega | (simp only [and_true,List.length_map,List.length_replicate,List.length_set,List.length_append,List.length_cons,List.length_nil,List.length_take,List.length_drop] at *;omega)) (by first | exact True.intro | omega | (simp only [and_true,List.length_map,List.length_replicate,List.length_set,List.length_append,List.length_cons,List.length_nil,List.length_take,List.length_drop] at *;omega)) ?_) | refine aOps_cons (stp_andN ((digs B n.natAbs).getD (i / 64) 0 / 2 ^ (i % 64)) (1) (by exact rfl) (by exact rfl) (by first | exact True.intro | omega | (simp only [and_true,List.length_map,List.length_replicate,List.length_set,List.length_append,List.length_cons,List.length_nil,List.length_take,List.length_drop] at *;omega)) (by first | exact True.intro | omega | (simp only [and_true,List.length_map,List.length_replicate,List.length_set,List.length_append,List.length_cons,List.length_nil,List.length_take,List.length_drop] at *;omega)) (by first | exact True.intro | omega | (simp only [and_true,List.length_map,List.length_replicate,List.length_set,List.length_append,List.length_cons,List.length_nil,List.length_take,List.length_drop] at *;omega)) (by first | exact True.intro | omega | (simp only [and_true,List.length_map,List.length_replicate,List.length_set,List.length_append,List.length_cons,List.length_nil,List.length_take,List.length_drop] at *;omega)) ?_))
    repeat refine gN ?_
    (refine eF hS ?_ (fl':=[(4,uv (n.natAbs / 2 ^ i % 2))]);(repeat' (first | refine fJ ?_ ?_ | exact True.intro);all_goals (try (first | exact kv | (refine kW (ov_of lks) rfl ?_ ?_)))))
    refine kN ?_
    rw [← bit_pow,← hg,Nat.and_one_is_mod]

theorem c_uint64 (n : Int) (hn : (digs B n.natAbs).length < 2 ^ 40) : AFun Tryz.prog 115 [bp n] (uv (n.natAbs % B)):=by
  refine aF (mu:=muF) Tryz.func115 fun S hS=>?_
  have hU:=U_len (digs B n.natAbs)
  repeat refine gN ?_
  (refine zw ?_;refine s_cmp (fun h=>?_) (fun h=>?_))
  · have h0 : n.natAbs = 0:=(digs_nil hB).1 (List.eq_nil_of_length_eq_zero (by omega))
    repeat refine gN ?_
    (refine eF hS ?_ (fl':=[(2,uv (n.natAbs % B))]);(repeat' (first | refine fJ ?_ ?_ | exact True.intro);all_goals (try (first | exact kv | (refine kW (ov_of lks) rfl ?_ ?_)))))
    exact kN (by rw [h0];rfl)
  · repeat refine gN ?_
    (refine eF hS ?_ (fl':=[(2,uv (n.natAbs % B))]);(repeat' (first | refine fJ ?_ ?_ | exact True.intro);all_goals (try (first | exact kv | (refine kW (ov_of lks) rfl ?_ ?_)))))
    refine kN ?_
    rw [digs_getD hB]
    simp

theorem c_int64 (n : Int) (h1 : -9223372036854775808 < n) (h2 : n < 9223372036854775808) : AFun Tryz.prog 79 [bp n] (ivl .i64 n):=by
  refine aF (mu:=muF) Tryz.func79 fun S hS=>?_
  have hl : (digs B n.natAbs).length ≤ 1:=(digs_len hB).2 (by rw [Nat.pow_one];show _ < 18446744073709551616;omega)
  have e : n.natAbs % B = n.natAbs:=Nat.mod_eq_of_lt (by show _ < 18446744073709551616;omega)
  repeat refine gN ?_
  (refine zw ?_;refine s_call (c_uint64 n (by omega)) ?_)
  rw [e]
  repeat refine gN ?_
  refine awp_if (by exact rfl) (fun g=>?_) (fun g=>?_)
  · have g2 : n < 0:=by simpa using g
    repeat refine gN ?_
    (refine eF hS ?_ (fl':=[(2,ivl .i64 n)]);(repeat' (first | refine fJ ?_ ?_ | exact True.intro);all_goals (try (first | exact kv | (refine kW (ov_of lks) rfl ?_ ?_)))))
  · have g2 : ¬ n < 0:=by simpa using g
    repeat refine gN ?_
    (refine eF hS ?_ (fl':=[(2,ivl .i64 n)]);(repeat' (first | refine fJ ?_ ?_ | exact True.intro);all_goals (try (first | exact kv | (refine kW (ov_of lks) rfl ?_ ?_)))))
end Go.Proofs
