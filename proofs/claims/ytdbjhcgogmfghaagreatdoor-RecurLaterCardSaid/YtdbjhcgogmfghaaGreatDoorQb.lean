/-
  The statement that is named at its end, proved of every input.
-/
import Derived.Test.YtdbjhcgogmfghaaGreatDoorMaq
import Derived.Test.YtdbjhcgogmfghaaGreatDoorMar
import Derived.Test.YtdbjhcgogmfghaaGreatDoorCards
import Derived.Test.YtdbjhcgogmfghaaGreatDoorTie
import Derived.SevenTiedAt
import Derived.Carry
set_option linter.unusedVariables false
set_option linter.unusedSimpArgs false
set_option linter.unnecessarySimpa false

/-
  RecurModTerm: the law's walk.
-/
-- kv2
namespace Go.Proofs
open Go Go.Abs Go.Nums
attribute [local irreducible] thenA blockA awp aw Stp EndF EndP EndN EndG aOps aOpsM scopeA
set_option linter.unusedSimpArgs false
set_option linter.unusedVariables false
set_option maxHeartbeats 4000000

theorem lims_sm {l : List Int} (h : smallL l) : lims 4096 l:=lims_small fun x hx=>by have:=h.2 x hx;omega
theorem rightZ (n : Int) (h : (digs B n.natAbs).length ≤ 4096) : rightB (decide (n < 0)) (digs B n.natAbs) = true:=by
  unfold rightB
  split
  · rename_i q
    have hz : n.natAbs = 0:=(digs_nil hB).1 (List.eq_nil_of_length_eq_zero q)
    have : ¬ n < 0:=by omega
    simp [this]
  · rename_i q
    have hne : digs B n.natAbs ≠ []:=fun e=>q (by rw [e];rfl)
    have:=digs_top hB hne
    rw [getLast_getD hne] at this
    exact decide_eq_true ⟨h,this⟩
theorem allR_lims {l : List Int} (h : lims 4096 l) : allR (l.map zp) = true:=List.all_eq_true.2 fun p hp=>by
  obtain ⟨n,hn,rfl⟩:=List.mem_map.1 hp
  exact rightZ n (h n hn)
theorem len_of_blen {n K : Nat} (h : blen n ≤ 64 * K) : (digs B n).length ≤ K:=(digs_len hB).2 (by rw [show B ^ K = 2 ^ (64 * K) by rw [Nat.pow_mul]];exact (blen_le _ _).1 h)

theorem c_termS {fs bs : List Int} (hf : smallL fs) (hb : smallL bs) (hL : fs.length = bs.length) {n : Nat} (hn : n ≤ 160) : AFun Tryz.prog 11 [zsq fs,zsq bs,iv n] (.tup [wz (rowA bs fs n),ivl .i64 0]):=by
  by_cases h0 : 0 < bs.length
  · obtain ⟨h1,h2⟩:=extN_small hb hf hL hn
    refine c_term fs bs n _ (by simp [nm0,AVal.at,AVal.at1,Cell.at]) hL h0 (by have:=hb.1;omega) (by omega) (lims_sm hf) (lims_sm hb) (allR_lims (lims_sm hf)) (allR_lims (lims_sm hb)) ?_
    rw [h1]
    show _ = _
    rw [h2]
  · have e1 : bs = []:=List.eq_nil_of_length_eq_zero (by omega)
    have e2 : fs = []:=List.eq_nil_of_length_eq_zero (by omega)
    subst e1
    subst e2
    have e3 : rowA [] [] n = 0:=by
      rw [rowA_rule (b:=[]) (f:=[]) rfl n (Nat.zero_le _)];rfl
    have:=c_termNil [] [] n (by decide) (fun p hp=>by cases hp) (by decide) (fun p hp=>by cases hp) rfl rfl rfl (by omega) (by simp;omega) rfl
    rw [e3]
    have e4 : wz 0 = w0:=by
      show wi (decide ((0 : Int) < 0)) (digs B 0) = w0
      rw [digs_zero];rfl
    rw [e4]
    exact this

abbrev zNu (z : Int) : Nu:=⟨decide (z < 0),z.natAbs,0⟩
theorem zNu_val (z : Int) : (zNu z).val = z:=by
  show sg (decide (z < 0)) z.natAbs * 2 ^ 0 = z
  unfold sg
  split
  · rename_i h
    have:=of_decide_eq_true h
    omega
  · rename_i h
    have : ¬ z < 0:=fun g=>h (decide_eq_true g)
    omega
theorem zNu_ok {z : Int} {K : Nat} (h : blen z.natAbs ≤ K) : (zNu z).ok K:=⟨Int.le_refl _,by show (blen z.natAbs : Int) + 0 ≤ K;omega⟩
theorem sm_blen {l : List Int} (h : smallL l) (i : Nat) : blen (l.getD i 0).natAbs ≤ 10:=(blen_le _ _).2 (Nat.lt_of_le_of_lt (smallL_get h i) (by decide))
end Go.Proofs

/-
  Rows by one rule: the row that begins one number later; rows put together.
-/
namespace Go.Proofs
open Go Go.Abs Go.Nums

theorem rule_unique {b : List Int} {x y : Nat→Int} (hx : byRule b x) (hy : byRule b y) (h : ∀ i,i < b.length→x i = y i) : ∀ n,x n = y n:=by
  intro n
  induction n using Nat.strongRecOn with
  | ind n ih =>
    by_cases g : n < b.length
    · exact h n g
    · rw [hx n (by omega),hy n (by omega)]
      refine sumN_congr fun i hi=>?_
      rw [ih (n - 1 - i) (by omega)]
theorem rowA_later {b f l : List Int} (hf : f.length = b.length) (hl : l.length = b.length) (h : ∀ i,i < b.length→l.getD i 0 = rowA b f (i + 1)) (n : Nat) : rowA b l n = rowA b f (n + 1):=by
  refine rule_unique (b:=b) (y:=fun n=>rowA b f (n + 1)) (rowA_rule hl) (fun m hm=>?_) (fun i hi=>?_) n
  · show rowA b f (m + 1) = _
    rw [rowA_rule hf (m + 1) (by omega)]
    refine sumN_congr fun i hi=>?_
    rw [show m + 1 - 1 - i = m - 1 - i + 1 by omega]
  · rw [rowA_first b l (by omega),h i hi]
theorem rowA_both {b f o s : List Int} (hf : f.length = b.length) (ho : o.length = b.length) (hs : s.length = b.length) (h : ∀ i,i < b.length→s.getD i 0 = f.getD i 0 + o.getD i 0) (n : Nat) : rowA b s n = rowA b f n + rowA b o n:=by
  refine rule_unique (b:=b) (y:=fun n=>rowA b f n + rowA b o n) (rowA_rule hs) (fun m hm=>?_) (fun i hi=>?_) n
  · show rowA b f m + rowA b o m = _
    rw [rowA_rule hf m hm,rowA_rule ho m hm,← sumN_add]
    refine sumN_congr fun i hi=>?_
    rw [Int.mul_add]
  · rw [rowA_first b s (by omega),rowA_first b f (by omega),rowA_first b o (by omega),h i hi]
def laterF (b f : List Int) (n : Nat) : List Int:=(List.range n).map fun i=>rowA b f (i + 1)
theorem laterF_len (b f : List Int) (n : Nat) : (laterF b f n).length = n:=by simp [laterF]
theorem laterF_get (b f : List Int) {n i : Nat} (h : i < n) : (laterF b f n).getD i 0 = rowA b f (i + 1):=by simp [laterF,h]
theorem laterF_succ (b f : List Int) (n : Nat) : laterF b f (n + 1) = laterF b f n ++ [rowA b f (n + 1)]:=by simp [laterF,List.range_succ]
def bothF (f o : List Int) (n : Nat) : List Int:=(List.range n).map fun i=>f.getD i 0 + o.getD i 0
theorem bothF_len (f o : List Int) (n : Nat) : (bothF f o n).length = n:=by simp [bothF]
theorem bothF_get (f o : List Int) {n i : Nat} (h : i < n) : (bothF f o n).getD i 0 = f.getD i 0 + o.getD i 0:=by simp [bothF,h]
theorem bothF_succ (f o : List Int) (n : Nat) : bothF f o (n + 1) = bothF f o n ++ [f.getD n 0 + o.getD n 0]:=by simp [bothF,List.range_succ]
end Go.Proofs

/-
  The laws of recur: a list of small numbers of one's own; Mod in terms of the row.
-/
-- kv2
namespace Go.Proofs
open Go Go.Abs Go.Nums
attribute [local irreducible] thenA blockA awp aw Stp EndF EndP EndN EndG aOps aOpsM scopeA
set_option linter.unusedSimpArgs false
set_option linter.unusedVariables false
set_option maxHeartbeats 4000000

theorem wzN (q : Nat) : wz (q : Int) = wi false (digs B q):=by
  show wi (decide ((q : Int) < 0)) (digs B (q : Int).natAbs) = _
  rw [decide_eq_false (by omega),Int.natAbs_natCast]
theorem c_recS {fs bs : List Int} (hL : fs.length = bs.length) (hb5 : bs.length ≤ 64) (hf : lims 4096 fs) (hb : lims 4096 bs) {n M : Nat} (hn : n < B) (hM0 : 0 < M) (hMl : (digs B M).length ≤ 16) :
    AFun Tryz.prog 16 [zsq fs,zsq bs,wi false (digs B n),wi false (digs B M)] (.tup [wi false (digs B (rowA bs fs n % (M : Int)).toNat),ivl .i64 0]):=by
  have hr1:=Int.emod_nonneg (rowA bs fs n) (show (M : Int) ≠ 0 by omega)
  obtain ⟨R,hR⟩ : ∃ R : Nat,rowA bs fs n % (M : Int) = (R : Int):=⟨_,(Int.toNat_of_nonneg hr1).symm⟩
  have hn1 : (digs B n).length ≤ 1:=(digs_len hB (k:=1)).2 (by rw [Nat.pow_one];exact hn)
  have h1:=rightZ (n : Int) (by rw [Int.natAbs_natCast];omega)
  have h2:=rightZ (M : Int) (by rw [Int.natAbs_natCast];omega)
  rw [decide_eq_false (by omega),Int.natAbs_natCast] at h1 h2
  have:=c_recmod fs bs n M hL hb5 hM0 hMl hn1 hf hb (allR_lims hf) (allR_lims hb) (by simp [allR,h1,h2])
  rw [modR_row hL (blen_lt n),hR,wzN R] at this
  rw [hR,Int.toNat_natCast]
  exact this

theorem accI_nm0 {ty : TypeId} {k : IntKind} {L : List Int} : ∀ x ∈ (AObj.accI ty k L).cls,∀ m,¬ x.at m:=fun x hx m hm=>by
  obtain ⟨c,hc,hxc⟩:=List.mem_flatten.1 hx
  obtain ⟨y,-,rfl⟩:=List.mem_map.1 hc
  rw [List.mem_singleton.1 hxc] at hm
  exact hm
theorem c_rowM (l : List Int) (n : Nat) (hl : l.length < 2 ^ 63) (hn : n < 2 ^ 40) (hr : ∀ x ∈ l,-9223372036854775808 ≤ x∧x < 9223372036854775808) :
    AMade Tryz.prog 32 [li l,iv n,ivl .i64 1000] (fun z=>.accv z (rowF l n).length) (.accI 2 .i64 (rowF l n)):=by
  refine amade (mu:=muF) Tryz.func32 rfl (by decide) rfl (by decide) (Nat.le_of_ble_eq_true rfl) (by simp [nm0,AVal.at,AVal.at1,Cell.at]) (by intros;rfl) (by intro n m h;exact (show n = m from h).symm) accI_nm0 fun S hS=>?_
  repeat refine gN ?_
  refine awp_rep (fun i : Nat=>⟨lk' [(0,li l),(1,iv n),(2,ivl .i64 1000),(7,.accv (.loc 31) i),(8,iv i)],ov [(.loc 31,.accI 2 .i64 (rowF l i))] (pushS S)⟩) (fun i=>i ≤ n∧i ≤ l.length) (fun i=>n + 1 - i) 0 ⟨Nat.zero_le _,Nat.zero_le _⟩ ?_ ?_
  · (refine fz hS ?_ ?_;all_goals (repeat' (first | refine fJ ?_ ?_ | exact True.intro));all_goals (try (first | exact kv | exact kQ | exact kQc | exact kIc | exact kFn0 | exact kOac | (refine kW (ov_of lks) rfl ?_ ?_))))
    · exact ⟨.inr ⟨fun _ h=>(by cases (show none = some _ from h)),_,_,rfl⟩,trivial⟩
    · exact .nilA (ov_of rfl)
  rintro i ⟨hi,hi2⟩
  have hL : (rowF l i).length = i:=by rw [rowF_len];omega
  repeat refine gN ?_
  (refine zw ?_;refine s_cmp (fun g=>?_) (fun g=>?_))
  · repeat refine gN ?_
    (refine zw ?_;refine s_cmp (fun g2=>?_) (fun g2=>?_))
    · obtain ⟨x,hx⟩ : ∃ x,l[i]? = some x:=⟨_,List.getElem?_eq_getElem (by omega)⟩
      have hxr:=hr x (List.mem_of_getElem? hx)
      have hxD : l.getD i 0 = x:=by rw [List.getD_eq_getElem?_getD,hx];rfl
      repeat refine gN ?_
      rw [show (i : Int).toNat = i by omega,hxD]
      refine zw1 (stp_remI ?_ (h:=by decide))
      repeat refine gN ?_
      refine zw1 (s_app8 ttOk (Y:=[x.tmod 1001]) ?_ ?_ ?_ (hn:=hL))
      · exact srcE_win (L:=[x.tmod 1001]) lks (by simp)
      · rw [hL];simp;omega
      repeat refine gN ?_
      refine ⟨i + 1,?_,by omega,by omega⟩
      rw [rowF_snoc hx]
      (refine fz hS ?_ ?_;all_goals (repeat' (first | refine fJ ?_ ?_ | exact True.intro));all_goals (try (first | exact kv | exact kQ | exact kQc | exact kIc | exact kFn0 | exact kOac | (refine kW (ov_of lks) rfl ?_ ?_))))
    · repeat refine gN ?_
      have hE:=rowF_all (l:=l) (n:=n) hi (by omega)
      rw [← hE,hL]
      (refine endG ttOk (l:=(.loc 31)) (fl':=[(6,.accv (.loc 31) i)]) (.inr rfl) hS (by exact rfl) (by exact rfl) ?_ ?_ (by exact rfl) (by exact rfl) (by exact rfl);all_goals (repeat' (first | refine fJ ?_ ?_ | exact True.intro);all_goals (try (first | exact kv | exact kQ | exact kQc | exact kIc | exact kFn0 | exact kOac | (refine kW (ov_of lks) rfl ?_ ?_)))))
  · repeat refine gN ?_
    have hE:=rowF_all (l:=l) (n:=n) hi (by omega)
    rw [← hE,hL]
    (refine endG ttOk (l:=(.loc 31)) (fl':=[(6,.accv (.loc 31) i)]) (.inr rfl) hS (by exact rfl) (by exact rfl) ?_ ?_ (by exact rfl) (by exact rfl) (by exact rfl);all_goals (repeat' (first | refine fJ ?_ ?_ | exact True.intro);all_goals (try (first | exact kv | exact kQ | exact kQc | exact kIc | exact kFn0 | exact kOac | (refine kW (ov_of lks) rfl ?_ ?_)))))

def padF (l : List Int) (k : Nat) : List Int:=rowF l k ++ List.replicate (k - (rowF l k).length) 7
theorem padF_len (l : List Int) (k : Nat) : (padF l k).length = k:=by
  have:=rowF_len l k
  rw [padF,List.length_append,List.length_replicate]
  omega
theorem padF_small (l : List Int) {k : Nat} (h : k ≤ 5) : smallL (padF l k):=⟨by rw [padF_len];exact h,fun x hx=>by
  rcases List.mem_append.1 hx with g | g
  · exact (rowF_small l h).2 x g
  · rw [(List.mem_replicate.1 g).2];decide⟩
end Go.Proofs

/-
  RecurLater: the law's walk.
-/
-- kv2
namespace Go.Proofs
open Go Go.Abs Go.Nums
attribute [local irreducible] thenA blockA awp aw Stp EndF EndP EndN EndG aOps aOpsM scopeA
set_option linter.unusedSimpArgs false
set_option linter.unusedVariables false
set_option maxHeartbeats 4000000

theorem tell_nat (n : Nat) (hn : n < B) : AFun Tryz.prog 30 [nu ⟨false,n,0⟩] (.tup [wi false (digs B n),bvl true]):=by
  have hb : blen n ≤ 64:=(blen_le _ _).2 hn
  have:=c_tellint1 ⟨false,n,0⟩ 64 ⟨Int.le_refl _,by show (blen n : Int) + 0 ≤ _;omega⟩ (by decide) (.inr (by show (blen n : Int) + 0 ≤ _;omega))
  rw [show (Nu.mk false n 0).val = (n : Int) by simp [Nu.val,sg],show vz (n : Int) = wi false (digs B n) from wzN n] at this
  exact this
theorem tell_z (x y : Int) (K : Nat) (hK : K ≤ 4000) (hx : blen x.natAbs ≤ K) (hy : blen y.natAbs ≤ K) :
    ∃ s : Nu,AFun Tryz.prog 28 [nu (zNu x),nu (zNu y)] (nu s)∧AFun Tryz.prog 30 [nu s] (.tup [wz (x + y),bvl true]):=by
  have o1:=zNu_ok hx
  have o2:=zNu_ok hy
  have o3:=Nu.ok_plus o1 o2
  refine ⟨_,c_numplus (zNu x) (zNu y) K o1 o2 (by omega),?_⟩
  have:=c_tellint1 ((zNu x).plus (zNu y)) (K + 1) o3 (by omega) (.inr (by have:=o3.2;omega))
  rw [Nu.val_plus (Int.le_refl _) (Int.le_refl _),zNu_val,zNu_val] at this
  exact this
theorem c_intz (x : Int) (h : (digs B x.natAbs).length < 2 ^ 42) : AFun Tryz.prog 25 [wz x] (nu (zNu x)):=by
  have:=c_numint (decide (x < 0)) (digs B x.natAbs) (rng_digs hB _) h
  rw [val_digs hB] at this
  exact this
theorem blen_add1 (x y : Int) (K : Nat) (hx : blen x.natAbs ≤ K) (hy : blen y.natAbs ≤ K) : blen (x + y).natAbs ≤ K + 1:=by
  rw [blen_le,Nat.pow_succ]
  have h1:=(blen_le _ _).1 hx
  have h2:=(blen_le _ _).1 hy
  have:=Int.natAbs_add_le x y
  omega

theorem l_later (a b c : List Int) (n0 : Nat) (s : Bool) (w : List Nat) (hla : a.length < 2 ^ 63) (hra : ∀ x ∈ a,-9223372036854775808 ≤ x∧x < 9223372036854775808) (hlb : b.length < 2 ^ 63) (hrb : ∀ x ∈ b,-9223372036854775808 ≤ x∧x < 9223372036854775808)
    (hlc : c.length < 2 ^ 63) (hrc : ∀ x ∈ c,-9223372036854775808 ≤ x∧x < 9223372036854775808) (hn0 : n0 < B) (hrw : rng B w) (hlw : w.length < 2 ^ 63) : AFun Tryz.prog 6 [li a,li b,li c,uv n0,wi s w] (bvl true):=by
  obtain ⟨k,hk⟩ : ∃ k,k = min a.length (min b.length 5):=⟨_,rfl⟩
  have hLi:=c_lists a b k hk hla hlb hra hrb
  obtain ⟨fs,hfs⟩ : ∃ fs,fs = rowF a k:=⟨_,rfl⟩
  obtain ⟨bs,hbs⟩ : ∃ bs,bs = rowF b k:=⟨_,rfl⟩
  have hf : smallL fs:=by rw [hfs];exact rowF_small a (by omega)
  have hb : smallL bs:=by rw [hbs];exact rowF_small b (by omega)
  have hL : fs.length = bs.length:=by rw [hfs,hbs,rowF_len,rowF_len];omega
  rw [← hfs,← hbs] at hLi
  have hb5:=hb.1
  obtain ⟨K,hK⟩ : ∃ K,K = bs.length:=⟨_,rfl⟩
  obtain ⟨M,hM⟩ : ∃ M,M = atl (val B (w.take 3)):=⟨_,rfl⟩
  have hMod:=c_modulus s w hrw hlw
  rw [← hM] at hMod
  have hM0 : 0 < M:=by rw [hM];unfold atl;split <;> omega
  have hMl : (digs B M).length ≤ 3:=by
    refine (digs_len hB).2 ?_
    have h1:=val_lt (rng_take hrw 3)
    have h2 : (w.take 3).length ≤ 3:=by rw [List.length_take];omega
    have h3 : B ^ (w.take 3).length ≤ B ^ 3:=Nat.pow_le_pow_right (by decide) h2
    rw [hM]
    unfold atl
    split
    · decide
    · omega
  obtain ⟨N,hN⟩ : ∃ N,N = if n0 = 18446744073709551615 then 18446744073709551614 else n0:=⟨_,rfl⟩
  have hNB : N + 1 < B:=by
    have : n0 < 18446744073709551616:=hn0
    show N + 1 < 18446744073709551616
    rw [hN]
    split <;> omega
  obtain ⟨os,hos⟩ : ∃ os,os = padF c K:=⟨_,rfl⟩
  have ho : smallL os:=by rw [hos];exact padF_small c (by omega)
  have hoL : os.length = bs.length:=by rw [hos,padF_len,hK]
  have lsF:=lims_sm hf
  have lsB:=lims_sm hb
  have lsO:=lims_sm ho
  have lsL : lims 4096 (laterF bs fs K):=fun x hx=>by
    obtain ⟨i,hi,rfl⟩:=List.mem_map.1 hx
    have hi:=List.mem_range.1 hi
    have:=rowA_blen hb hf hL (n:=i + 1) (by omega)
    exact len_of_blen (by omega)
  have lsS : lims 4096 (bothF fs os K):=fun x hx=>by
    obtain ⟨i,hi,rfl⟩:=List.mem_map.1 hx
    have h1:=blen_add1 _ _ 10 (sm_blen hf i) (sm_blen ho i)
    exact len_of_blen (by omega)
  have hNB' : N < B:=by omega
  have R1:=c_recS (fs:=laterF bs fs K) (bs:=bs) (by rw [laterF_len,hK]) (by omega) lsL lsB hNB' hM0 (by omega)
  have R2:=c_recS hL (by omega) lsF lsB hNB hM0 (by omega)
  have R3:=c_recS hL (by omega) lsF lsB hNB' hM0 (by omega)
  have R4:=c_recS hoL (by omega) lsO lsB hNB' hM0 (by omega)
  have R5:=c_recS (fs:=bothF fs os K) (bs:=bs) (by rw [bothF_len,hK]) (by omega) lsS lsB hNB' hM0 (by omega)
  rw [rowA_later hL (by rw [laterF_len,hK]) (fun i hi=>laterF_get bs fs (by omega)) N] at R1
  rw [rowA_both hL hoL (by rw [bothF_len,hK]) (fun i hi=>bothF_get fs os (by omega)) N] at R5
  have q0 : (M : Int) ≠ 0:=by omega
  obtain ⟨U1,hU1⟩ : ∃ U : Nat,rowA bs fs (N + 1) % (M : Int) = (U : Int):=⟨_,(Int.toNat_of_nonneg (Int.emod_nonneg _ q0)).symm⟩
  obtain ⟨U2,hU2⟩ : ∃ U : Nat,rowA bs fs N % (M : Int) = (U : Int):=⟨_,(Int.toNat_of_nonneg (Int.emod_nonneg _ q0)).symm⟩
  obtain ⟨U3,hU3⟩ : ∃ U : Nat,rowA bs os N % (M : Int) = (U : Int):=⟨_,(Int.toNat_of_nonneg (Int.emod_nonneg _ q0)).symm⟩
  obtain ⟨U4,hU4⟩ : ∃ U : Nat,(rowA bs fs N + rowA bs os N) % (M : Int) = (U : Int):=⟨_,(Int.toNat_of_nonneg (Int.emod_nonneg _ q0)).symm⟩
  have hUM : ∀ {x : Int} {U : Nat},x % (M : Int) = (U : Int)→U < M:=fun {x U} h=>by
    have:=Int.emod_lt_of_pos x (show (0 : Int) < (M : Int) by omega)
    omega
  rw [hU1,Int.toNat_natCast] at R1 R2
  rw [hU2,Int.toNat_natCast] at R3
  rw [hU3,Int.toNat_natCast] at R4
  rw [hU4,Int.toNat_natCast] at R5
  have hS4 : ((U2 : Int) + (U3 : Int)) % (M : Int) = (U4 : Int):=by rw [← hU2,← hU3,← Int.add_emod,hU4]
  refine aF (mu:=muF) Tryz.func6 fun S hS=>?_
  repeat refine gN ?_
  (refine zw ?_;refine s_call (hLi) ?_)
  repeat refine gN ?_
  (refine zw ?_;refine s_call (hMod) ?_)
  iterate 5 refine gN ?_
  refine awp_mid (fun st=>Weak st ⟨lk' [(2,li c),(3,uv N),(11,zsq fs),(12,zsq bs),(13,ptr (.loc 13))],ov [(.loc 13,.cells 28 [.sc (.bool false),.ints .u64 (U (digs B M))])] (pushS S)⟩) ?_ ?_
  · repeat refine gN ?_
    (refine zw ?_;refine s_cmp (fun g1=>?_) (fun g1=>?_))
    · have e1 : n0 = 18446744073709551615:=by omega
      have e2 : N = n0 - 1:=by rw [hN,if_pos e1];omega
      repeat refine gN ?_
      rw [e2]
      (refine fz hS ?_ ?_;all_goals (repeat' (first | refine fJ ?_ ?_ | exact True.intro));all_goals (try (first | exact kv | exact kQ | exact kQc | exact kIc | exact kFn0 | exact kOac | (refine kW (ov_of lks) rfl ?_ ?_))))
    · have e2 : N = n0:=by rw [hN,if_neg (by omega)]
      repeat refine gN ?_
      rw [e2]
      (refine fz hS ?_ ?_;all_goals (repeat' (first | refine fJ ?_ ?_ | exact True.intro));all_goals (try (first | exact kv | exact kQ | exact kQc | exact kIc | exact kFn0 | exact kOac | (refine kW (ov_of lks) rfl ?_ ?_))))
  intro st hst
  refine awp_weak _ hst ?_
  clear hst st
  have hT1:=c_natof N hNB'
  have hT2:=tell_nat N hNB'
  have hT3:=c_natof (N + 1) hNB
  have hT4:=tell_nat (N + 1) hNB
  repeat refine gN ?_
  (refine zw ?_;refine s_call (hT1) ?_)
  repeat refine gN ?_
  (refine zw ?_;refine s_call (hT2) ?_)
  repeat refine gN ?_
  (refine zw ?_;refine s_call (hT3) ?_)
  repeat refine gN ?_
  (refine zw ?_;refine s_call (hT4) ?_)
  repeat refine gN ?_
  have hW2 : ((bs.map zp).map rowI).length = K:=by simp [hK]
  have hW1 : ((fs.map zp).map rowI).length = K:=by simp [hK,hL]
  have hW3 : ((os.map zp).map rowI).length = K:=by simp [hK,hoL]
  refine awp_midB (fun st=>Weak st ⟨lk' [(2,li c),(11,zsq fs),(12,zsq bs),(13,ptr (.loc 13)),(14,ptr (.loc 14)),(16,ptr (.loc 16)),(19,zsq (laterF bs fs K)),(21,nils)],ov [(.loc 13,.cells 28 [.sc (.bool false),.ints .u64 (U (digs B M))]),(.loc 14,.cells 28 [.sc (.bool false),.ints .u64 (U (digs B N))]),(.loc 16,.cells 28 [.sc (.bool false),.ints .u64 (U (digs B (N + 1)))])] (pushS S)⟩) ?_ ?_
  · refine awp_rep (fun j : Nat=>⟨lk' [(2,li c),(11,zsq fs),(12,zsq bs),(13,ptr (.loc 13)),(14,ptr (.loc 14)),(16,ptr (.loc 16)),(18,iv K),(19,.accv (.loc 87) j),(21,nils),(22,iv (j + 1))],ov [(.loc 87,.acc tInt 2 ((laterF bs fs j).map rowC)),(.loc 13,.cells 28 [.sc (.bool false),.ints .u64 (U (digs B M))]),(.loc 14,.cells 28 [.sc (.bool false),.ints .u64 (U (digs B N))]),(.loc 16,.cells 28 [.sc (.bool false),.ints .u64 (U (digs B (N + 1)))])] (pushS S)⟩) (fun j=>j ≤ K) (fun j=>K + 1 - j) 0 (Nat.zero_le _) ?_ ?_
    · (refine fz hS ?_ ?_;all_goals (repeat' (first | refine fJ ?_ ?_ | exact True.intro));all_goals (try (first | exact kv | exact kQ | exact kQc | exact kIc | exact kFn0 | exact kOac | (refine kW (ov_of lks) rfl ?_ ?_))))
      · refine ⟨.inr ⟨fun _ h=>(by cases (show none = some _ from h)),_,_,rfl⟩,?_⟩
        (repeat' (first | refine fJ ?_ ?_ | exact True.intro);all_goals (try (first | exact kv | exact kQ | exact kQc | exact kIc | exact kFn0 | exact kOac | (refine kW (ov_of lks) rfl ?_ ?_))))
      · exact .nilA (ov_of rfl)
    intro j hj
    have hTj:=c_termS hf hb hL (n:=j + 1) (by omega)
    repeat refine gN ?_
    (refine zw ?_;refine s_cmp (fun g2=>?_) (fun g2=>?_))
    · repeat refine gN ?_
      (refine zw ?_;refine s_call (hTj) ?_)
      repeat refine gN ?_
      (refine zw ?_;refine s_cmp (fun g3=>?_) (fun g3=>?_))
      · exact absurd rfl g3
      repeat refine gN ?_
      (refine zw ?_;refine s_bld (out:=rowC (rowA bs fs (j + 1))) ttOk ?_)
      refine zw1 ?_
      refine s_appX ttOk (sz:=1) (nb:=32) (Y:=[rowC (rowA bs fs (j + 1))]) (hn:=by simp [laterF_len]) ?_ ?_ ?_
      · exact srcR_one lks rfl
      · simp [maxLen,laterF_len];omega
      repeat refine gN ?_
      refine ⟨j + 1,?_,by omega,by omega⟩
      rw [laterF_succ,List.map_append,List.map_singleton]
      (refine fz hS ?_ ?_;all_goals (repeat' (first | refine fJ ?_ ?_ | exact True.intro));all_goals (try (first | exact kv | exact kQ | exact kQc | exact kIc | exact kFn0 | exact kOac | (refine kW (ov_of lks) rfl ?_ ?_))))
      · rw [← List.map_singleton (f:=rowC),← List.map_append]
        exact .of_nm0 (acc_nm0 (rowC_nm _))
      exact kAccK (ov_of lks) (ov_of lks) (by simp) (by simp [laterF_len])
    · repeat refine gN ?_
      have : j = K:=by omega
      subst this
      (refine fz hS ?_ ?_;all_goals (repeat' (first | refine fJ ?_ ?_ | exact True.intro));all_goals (try (first | exact kv | exact kQ | exact kQc | exact kIc | exact kFn0 | exact kOac | (refine kW (ov_of lks) rfl ?_ ?_))))
      exact kAccZ (ov_of lks) rfl
  intro st hst
  refine awp_weak _ hst ?_
  clear hst st
  repeat refine gN ?_
  rw [hW2]
  (refine zw ?_;refine s_made (c_rowM c K hlc (by omega) hrc) ?_)
  repeat refine gN ?_
  refine awp_midB (fun st=>Weak st ⟨lk' [(11,zsq fs),(12,zsq bs),(13,ptr (.loc 13)),(14,ptr (.loc 14)),(16,ptr (.loc 16)),(19,zsq (laterF bs fs K)),(21,nils),(25,li os)],ov [(.loc 13,.cells 28 [.sc (.bool false),.ints .u64 (U (digs B M))]),(.loc 14,.cells 28 [.sc (.bool false),.ints .u64 (U (digs B N))]),(.loc 16,.cells 28 [.sc (.bool false),.ints .u64 (U (digs B (N + 1)))])] (pushS S)⟩) ?_ ?_
  · have hrl:=rowF_len c K
    refine awp_rep (fun j : Nat=>⟨lk' [(11,zsq fs),(12,zsq bs),(13,ptr (.loc 13)),(14,ptr (.loc 14)),(16,ptr (.loc 16)),(19,zsq (laterF bs fs K)),(21,nils),(25,.accv (.loc 91) ((rowF c K).length + j))],ov [(.loc 91,.accI 2 .i64 (rowF c K ++ List.replicate j 7)),(.loc 13,.cells 28 [.sc (.bool false),.ints .u64 (U (digs B M))]),(.loc 14,.cells 28 [.sc (.bool false),.ints .u64 (U (digs B N))]),(.loc 16,.cells 28 [.sc (.bool false),.ints .u64 (U (digs B (N + 1)))])] (pushS S)⟩) (fun j=>(rowF c K).length + j ≤ K) (fun j=>K + 1 - j) 0 (by omega) ?_ ?_
    · rw [List.replicate_zero,List.append_nil]
      (refine fz hS ?_ ?_;all_goals (repeat' (first | refine fJ ?_ ?_ | exact True.intro));all_goals (try (first | exact kv | exact kQ | exact kQc | exact kIc | exact kFn0 | exact kOac | (refine kW (ov_of lks) rfl ?_ ?_))))
    intro j hj
    have hL2 : (rowF c K ++ List.replicate j 7).length = (rowF c K).length + j:=by simp
    repeat refine gN ?_
    rw [hW2]
    (refine zw ?_;refine s_cmp (fun g4=>?_) (fun g4=>?_))
    · repeat refine gN ?_
      refine zw1 (s_app8 ttOk (Y:=[7]) ?_ ?_ ?_ (hn:=hL2))
      · exact srcE_win (L:=[7]) lks (by simp)
      · rw [hL2];simp;omega
      repeat refine gN ?_
      refine ⟨j + 1,?_,by omega,by omega⟩
      rw [List.append_assoc,← List.replicate_succ']
      (refine fz hS ?_ ?_;all_goals (repeat' (first | refine fJ ?_ ?_ | exact True.intro));all_goals (try (first | exact kv | exact kQ | exact kQc | exact kIc | exact kFn0 | exact kOac | (refine kW (ov_of lks) rfl ?_ ?_))))
    · repeat refine gN ?_
      have e : rowF c K ++ List.replicate j 7 = os:=by rw [hos,padF,show K - (rowF c K).length = j by omega]
      rw [e]
      (refine fz hS ?_ ?_;all_goals (repeat' (first | refine fJ ?_ ?_ | exact True.intro));all_goals (try (first | exact kv | exact kQ | exact kQc | exact kIc | exact kFn0 | exact kOac | (refine kW (ov_of lks) rfl ?_ ?_))))
      exact .accI (ov_of lks) rfl
  intro st hst
  refine awp_weak _ hst ?_
  clear hst st
  repeat refine gN ?_
  (refine zw ?_;refine s_call (c_lawsmall os (by omega) (fun x hx=>by have:=ho.2 x hx;omega)) ?_)
  repeat refine gN ?_
  refine awp_midB (fun st=>Weak st ⟨lk' [(11,zsq fs),(12,zsq bs),(13,ptr (.loc 13)),(14,ptr (.loc 14)),(16,ptr (.loc 16)),(19,zsq (laterF bs fs K)),(20,zsq os),(21,zsq (bothF fs os K))],ov [(.loc 13,.cells 28 [.sc (.bool false),.ints .u64 (U (digs B M))]),(.loc 14,.cells 28 [.sc (.bool false),.ints .u64 (U (digs B N))]),(.loc 16,.cells 28 [.sc (.bool false),.ints .u64 (U (digs B (N + 1)))])] (pushS S)⟩) ?_ ?_
  · refine awp_rep (fun i : Nat=>⟨lk' [(11,zsq fs),(12,zsq bs),(13,ptr (.loc 13)),(14,ptr (.loc 14)),(16,ptr (.loc 16)),(19,zsq (laterF bs fs K)),(20,zsq os),(21,.accv (.loc 126) i),(26,iv i)],ov [(.loc 126,.acc tInt 2 ((bothF fs os i).map rowC)),(.loc 13,.cells 28 [.sc (.bool false),.ints .u64 (U (digs B M))]),(.loc 14,.cells 28 [.sc (.bool false),.ints .u64 (U (digs B N))]),(.loc 16,.cells 28 [.sc (.bool false),.ints .u64 (U (digs B (N + 1)))])] (pushS S)⟩) (fun i=>i ≤ K) (fun i=>K + 1 - i) 0 (Nat.zero_le _) ?_ ?_
    · (refine fz hS ?_ ?_;all_goals (repeat' (first | refine fJ ?_ ?_ | exact True.intro));all_goals (try (first | exact kv | exact kQ | exact kQc | exact kIc | exact kFn0 | exact kOac | (refine kW (ov_of lks) rfl ?_ ?_))))
      · refine ⟨.inr ⟨fun _ h=>(by cases (show none = some _ from h)),_,_,rfl⟩,?_⟩
        (repeat' (first | refine fJ ?_ ?_ | exact True.intro);all_goals (try (first | exact kv | exact kQ | exact kQc | exact kIc | exact kFn0 | exact kOac | (refine kW (ov_of lks) rfl ?_ ?_))))
      · exact .nilA (ov_of rfl)
    intro i hi
    repeat refine gN ?_
    rw [hW2]
    (refine zw ?_;refine s_cmp (fun g5=>?_) (fun g5=>?_))
    · obtain ⟨x,hx⟩ : ∃ x,fs[i]? = some x:=⟨_,List.getElem?_eq_getElem (by omega)⟩
      obtain ⟨y,hy⟩ : ∃ y,os[i]? = some y:=⟨_,List.getElem?_eq_getElem (by omega)⟩
      have hxD : fs.getD i 0 = x:=by rw [List.getD_eq_getElem?_getD,hx];rfl
      have hyD : os.getD i 0 = y:=by rw [List.getD_eq_getElem?_getD,hy];rfl
      have hxb : blen x.natAbs ≤ 10:=by rw [← hxD];exact sm_blen hf i
      have hyb : blen y.natAbs ≤ 10:=by rw [← hyD];exact sm_blen ho i
      obtain ⟨z,hz1,hz2⟩:=tell_z x y 10 (by omega) hxb hyb
      have hxl : (digs B x.natAbs).length ≤ 1:=len_of_blen (by omega)
      have hyl : (digs B y.natAbs).length ≤ 1:=len_of_blen (by omega)
      repeat refine gN ?_
      rw [show (i : Int).toNat = i by omega,rowI_get (p:=zp x) (by rw [List.getElem?_map,hx];rfl)]
      repeat refine gN ?_
      (refine zw ?_;refine s_call (c_intz x (by omega)) ?_)
      repeat refine gN ?_
      rw [show (i : Int).toNat = i by omega,rowI_get (p:=zp y) (by rw [List.getElem?_map,hy];rfl)]
      repeat refine gN ?_
      (refine zw ?_;refine s_call (c_intz y (by omega)) ?_)
      repeat refine gN ?_
      (refine zw ?_;refine s_call (hz1) ?_)
      repeat refine gN ?_
      (refine zw ?_;refine s_call (hz2) ?_)
      repeat refine gN ?_
      (refine zw ?_;refine s_bld (out:=rowC (x + y)) ttOk ?_)
      refine zw1 ?_
      refine s_appX ttOk (sz:=1) (nb:=32) (Y:=[rowC (x + y)]) (hn:=by simp [bothF_len]) ?_ ?_ ?_
      · exact srcR_one lks rfl
      · simp [maxLen,bothF_len];omega
      repeat refine gN ?_
      refine ⟨i + 1,?_,by omega,by omega⟩
      rw [bothF_succ,hxD,hyD,List.map_append,List.map_singleton]
      (refine fz hS ?_ ?_;all_goals (repeat' (first | refine fJ ?_ ?_ | exact True.intro));all_goals (try (first | exact kv | exact kQ | exact kQc | exact kIc | exact kFn0 | exact kOac | (refine kW (ov_of lks) rfl ?_ ?_))))
      · rw [← List.map_singleton (f:=rowC),← List.map_append]
        exact .of_nm0 (acc_nm0 (rowC_nm _))
      exact kAccK (ov_of lks) (ov_of lks) (by simp) (by simp [bothF_len])
    · repeat refine gN ?_
      have : i = K:=by omega
      subst this
      (refine fz hS ?_ ?_;all_goals (repeat' (first | refine fJ ?_ ?_ | exact True.intro));all_goals (try (first | exact kv | exact kQ | exact kQc | exact kIc | exact kFn0 | exact kOac | (refine kW (ov_of lks) rfl ?_ ?_))))
      exact kAccZ (ov_of lks) rfl
  intro st hst
  refine awp_weak _ hst ?_
  clear hst st
  have hbl : ∀ {x : Int} {U : Nat},x % (M : Int) = (U : Int)→(digs B U).length ≤ 3∧blen U ≤ 192:=fun {x U} h=>by
    have h1 : (digs B U).length ≤ 3:=Nat.le_trans (len_mono hB (Nat.le_of_lt (hUM h))) hMl
    exact ⟨h1,(blen_le _ _).2 ((digs_len hB (n:=U) (k:=3)).1 h1)⟩
  obtain ⟨a1,b1⟩:=hbl hU1
  obtain ⟨a2,b2⟩:=hbl hU2
  obtain ⟨a3,b3⟩:=hbl hU3
  obtain ⟨a4,b4⟩:=hbl hU4
  have hSI : AFun Tryz.prog 26 [wi false (digs B U1),wi false (digs B U1)] (bvl true):=by
    have:=c_sameint false false (digs B U1) (digs B U1) (by omega) (by omega)
    rw [decide_eq_true (show _∧_ from ⟨rfl,rfl⟩)] at this
    exact this
  have hI2:=c_intz (U2 : Int) (by rw [Int.natAbs_natCast];omega)
  have hI3:=c_intz (U3 : Int) (by rw [Int.natAbs_natCast];omega)
  rw [wzN] at hI2 hI3
  obtain ⟨z,hz1,hz2⟩:=tell_z (U2 : Int) (U3 : Int) 192 (by omega) (by rw [Int.natAbs_natCast];exact b2) (by rw [Int.natAbs_natCast];exact b3)
  have hLeft:=c_lawleft ((U2 : Int) + (U3 : Int)) M hM0 (by
    have:=blen_add1 (U2 : Int) (U3 : Int) 192 (by rw [Int.natAbs_natCast];exact b2) (by rw [Int.natAbs_natCast];exact b3)
    have:=len_of_blen (K:=4) (show blen ((U2 : Int) + (U3 : Int)).natAbs ≤ 64 * 4 by omega)
    omega) (by omega)
  rw [hS4,Int.toNat_natCast] at hLeft
  have hI4:=c_numint false (digs B U4) (rng_digs hB _) (by omega)
  rw [val_digs hB] at hI4
  have hCmp : AFun Tryz.prog 23 [nu ⟨false,U4,0⟩,nu ⟨false,U4,0⟩] (ivl .i64 0):=by
    have hok : (Nu.mk false U4 0).ok 192:=⟨Int.le_refl _,by show (blen U4 : Int) + 0 ≤ _;omega⟩
    have:=c_numcompare ⟨false,U4,0⟩ ⟨false,U4,0⟩ 192 hok hok (by decide)
    rw [Int.sub_self] at this
    exact this
  repeat refine gN ?_
  (refine zw ?_;refine s_call (R1) ?_)
  repeat refine gN ?_
  (refine zw ?_;refine s_call (R2) ?_)
  repeat refine gN ?_
  (refine zw ?_;refine s_call (R3) ?_)
  repeat refine gN ?_
  (refine zw ?_;refine s_call (R4) ?_)
  repeat refine gN ?_
  (refine zw ?_;refine s_call (R5) ?_)
  repeat refine gN ?_
  (refine zw ?_;refine s_cmp (fun g6=>?_) (fun g6=>?_))
  · exact absurd rfl g6
  repeat refine gN ?_
  try refine stp_gT (by exact rfl) (by exact rfl) ?_
  (refine zw ?_;refine s_call (hSI) ?_)
  repeat refine gN ?_
  (refine zw ?_;refine s_call (hI2) ?_)
  repeat refine gN ?_
  (refine zw ?_;refine s_call (hI3) ?_)
  repeat refine gN ?_
  (refine zw ?_;refine s_call (hz1) ?_)
  repeat refine gN ?_
  (refine zw ?_;refine s_call (hz2) ?_)
  repeat refine gN ?_
  (refine zw ?_;refine zg20 ttOk ?_ (hm:=by exact rfl))
  repeat refine gN ?_
  (refine zw ?_;refine s_call (hLeft) ?_)
  repeat refine gN ?_
  (refine zw ?_;refine s_call (hI4) ?_)
  repeat refine gN ?_
  (refine zw ?_;refine s_call (hCmp) ?_)
  repeat refine gN ?_
  (refine zw ?_;refine s_cmp (fun g7=>?_) (fun g7=>?_))
  rotate_left
  · exact absurd rfl g7
  repeat refine gN ?_
  try refine stp_gT (by exact rfl) (by exact rfl) ?_
  (refine zw ?_;refine s_call (c_awakeR) ?_)
  repeat refine gN ?_
  (refine eF hS ?_ (fl':=[(10,bvl true)]);(repeat' (first | refine fJ ?_ ?_ | exact True.intro);all_goals (try (first | exact kv | exact kQ | exact kQc | exact kIc | exact kFn0 | exact kOac | (refine kW (ov_of lks) rfl ?_ ?_)))))
end Go.Proofs

/-
  RecurLater is true of every input, where math/bits.deBruijn64tab holds what the program's text lays (the card ties it).
-/
namespace Go.Proofs.YtdbjhcgogmfghaaGreatDoor
open Go Go.Abs Go.Nums Go.Proofs
open Go.ChangeShapes Go.WideShapes Go.ChangeAt Go.RowKit Go.Joins

set_option maxRecDepth 100000 in
theorem recurLater_lifted (os : Os) (started : os.Started) (H : Type) (enc : TypeId × Value→H) :
    ReturnsInHanded {} Tryz.checked os 6 .any (fun w args=>(Rows.recurLaterSpec.pre enc Tryz.prog Tryz.f6 Rows.recurLaterRow.domain false w args∧laidMetH Tryz.prog laidT w)∧sizedMet enc Tryz.prog Tryz.f6 (OpenSpec.ofChange Rows.recurLaterSpec) false w args)
      (Rows.recurLaterSpec.post enc Tryz.prog Tryz.f6 false true false false):=by
  refine returnsInHanded_of_change_and (C:=Tryz.checked) (X:=fun w _=>laidMetH Tryz.prog laidT w) (fun _ _ _ hh h=>h.of_heap hh) own started (by kernel_rfl) Tryz.func6
    (ChangeSpec.witness_shaped (enc:=enc) (C:=Tryz.checked) (os:=os) (X:=fun w _=>laidMetH Tryz.prog laidT w) false (World.doorLaid Tryz.prog 14 os) #[.slice none 0 0,.slice none 0 0,.slice none 0 0,.int .u64 0,.agg #[.bool false,.slice none 0 0]] 8 rfl (World.shaped_of_RefB (by kernel_rfl) (by kernel_rfl)) (by kernel_rfl) (by kernel_rfl) (by kernel_rfl) (door_met os _)) ?_
  intro W base args ds gs before hval0 hW _ hsz hLaid _
  have hval : ∀ (j : Nat) t v,Tryz.f6.params[j]? = some t→args[j]? = some v→Value.okWide Tryz.prog W .any base t v:=hval0
  have hW':=hW
  obtain ⟨p,q,hA0,hV,rfl,_,_⟩:=hW
  have hA : DataW.TrodAll enc Tryz.prog W 0 (fun _=>true) true Tryz.f6.params.toList args.toList ds p:=hA0
  rw [Tryz.params6] at hA hval
  obtain ⟨v0,vs0,d0,ds0,p0,q0,hargs,rfl,rfl,h0,t0⟩:=trodAll_cons hA
  obtain ⟨v1,vs1,d1,ds1,p1,q1,rfl,rfl,rfl,h1,t1⟩:=trodAll_cons t0
  obtain ⟨v2,vs2,d2,ds2,p2,q2,rfl,rfl,rfl,h2,t2⟩:=trodAll_cons t1
  obtain ⟨v3,vs3,d3,ds3,p3,q3,rfl,rfl,rfl,h3,t3⟩:=trodAll_cons t2
  obtain ⟨v4,vs4,d4,ds4,p4,q4,rfl,rfl,rfl,h4,t4⟩:=trodAll_cons t3
  obtain ⟨rfl,rfl,rfl⟩:=trodAll_nil t4
  obtain rfl : args = #[v0,v1,v2,v3,v4]:=by cases args;simp_all
  obtain ⟨rfl,rfl⟩:=trodVars_none hV
  clear hA0 hval0
  simp only [List.append_nil] at hW'
  have hlt : ∀ x ∈ p0 ++ (p1 ++ (p2 ++ (p3 ++ p4))),x.block < W.heap.size:=fun x hx=>by simpa using hW'.lt x hx
  have hargs' : ∀ (W' : World),Below W.heap.size W W'→DataW.TrodAll enc Tryz.prog W' 0 (fun b=>decide (b < W.heap.size)) true [39,39,39,55,41] [v0,v1,v2,v3,v4] [d0,d1,d2,d3,d4] (p0 ++ (p1 ++ (p2 ++ (p3 ++ p4)))):=fun W' hn =>
    trodAll_cons_mk (Below.trod laidOut (by kernel_rfl) (of_decide_eq_true (by kernel_rfl)) h0 hn fun x hx=>hlt x (by simp [hx])) (trodAll_mk4 (Below.trod laidOut (by kernel_rfl) (of_decide_eq_true (by kernel_rfl)) h1 hn fun x hx=>hlt x (by simp [hx])) (Below.trod laidOut (by kernel_rfl) (of_decide_eq_true (by kernel_rfl)) h2 hn fun x hx=>hlt x (by simp [hx])) (Below.trod laidOut (by kernel_rfl) (of_decide_eq_true (by kernel_rfl)) h3 hn fun x hx=>hlt x (by simp [hx])) (Below.trod laidOut (by kernel_rfl) (of_decide_eq_true (by kernel_rfl)) h4 hn fun x hx=>hlt x (by simp [hx])))
  obtain ⟨l0,hr0,hl0,a0⟩:=longs_in (hval 0 39 v0 rfl rfl) h0
  obtain ⟨l1,hr1,hl1,a1⟩:=longs_in (hval 1 39 v1 rfl rfl) h1
  obtain ⟨l2,hr2,hl2,a2⟩:=longs_in (hval 2 39 v2 rfl rfl) h2
  obtain ⟨n3,rfl,rfl,rfl,wn3⟩:=open_int Tryz.underlying55 (hval 3 55 v3 rfl rfl) h3
  have hw3 : 0 ≤ n3∧n3 < 18446744073709551616:=by
    have:=wn3
    simp [Lit.wf,IntKind.min,IntKind.max,IntKind.signed,IntKind.bits] at this
    omega
  obtain ⟨m3,rfl⟩ : ∃ m : Nat,n3 = (m : Int):=⟨n3.toNat,by omega⟩
  have hm3 : m3 < 18446744073709551616:=by omega
  obtain ⟨s4,l4,hr4,hl4,a4⟩:=whole_in (hval 4 41 v4 rfl rfl) h4
  refine (calls_top (l_later l0 l1 l2 m3 s4 l4 hl0 hr0 hl1 hr1 hl2 hr2 hm3 hr4 hl4) Tryz.func6 rfl (by decide) W (of_laid hLaid) #[v0,v1,v2,.int .u64 (m3 : Int),v4] (vss_cons a0 (vss_cons a1 (vss_cons a2 (vss_cons vs_int (vss_cons a4 vss_nil)))))).mono fun e W'=>?_
  rintro ⟨rfl,hn⟩
  exact ⟨_,rfl,⟨_,_,_,[],_,[],hW',trodAll_mk1 (shut_bool Tryz.underlying4 true),hargs' _ hn,rfl,hn.frame _,fun h=>by cases h⟩⟩

theorem recurLater_said : Rows.RecurLaterSaid :=
  OpenClaim.holds_of_wide 6 Tryz.f6 rfl rfl rfl rfl rfl rfl rfl ⟨rfl,rfl,rfl,rfl,rfl⟩ rfl rfl rfl rfl rfl (by kernel_rfl) Tryz.func6 (by kernel_rfl)
    (of_decide_eq_true (by kernel_rfl)) (by unfold Func.isWrapper;rw [if_neg (of_decide_eq_false (by kernel_rfl))];exact ⟨rfl,rfl⟩)
    (fun os started H enc _=>recurLater_lifted os started H enc)

theorem recurLater_holds : Rows.RecurLaterCardSaid :=
  Claim7.holds_tied_plain_at .later [] [.data] true (true,"b9d768366b2b2be78be207a966b7a006ce7c5eb75ed894847f6082fba0b5f2bc") false
    recurLater_said (fun _ h=>by cases h) (by kernel_rfl) (fun _ h=>by cases h) recurLater_row_tie rfl ⟨rfl,rfl⟩ (by kernel_rfl) rfl
    (fun f fn hf hfn=>by
      obtain rfl : f = 6:=Option.some.inj ((show Tryz.prog.funcNamed "rosette/rosettelaw25.RecurLater" = some 6 by kernel_rfl).symm.trans hf) |>.symm
      obtain rfl : fn = Tryz.f6:=(Option.some.inj (Tryz.func6.symm.trans hfn)).symm
      exact ⟨by kernel_rfl,fun j t ht=>by
        rw [Tryz.params6] at ht
        have hm : t ∈ [39,39,39,55,41]:=by simpa using Array.mem_of_getElem? ht
        have hall : ([39,39,39,55,41].all fun u=>!Tryz.prog.wantsStandIn u) = true:=by kernel_rfl
        exact (show Tryz.prog.wantsStandIn t = false by simpa using List.all_eq_true.1 hall t hm)⟩)
    (by kernel_rfl)
end Go.Proofs.YtdbjhcgogmfghaaGreatDoor
