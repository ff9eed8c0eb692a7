/-
  The statement that is named at its end, proved of every input.
-/
import Derived.Test.YtdbjhcgogmfghaaGreatDoorMaq
import Derived.Test.YtdbjhcgogmfghaaGreatDoorMar
import Derived.Test.YtdbjhcgogmfghaaGreatDoorCards
import Derived.Test.YtdbjhcgogmfghaaGreatDoorTie
import Derived.SevenTiedAt
import Derived.Carry
set_option linter.unusedVariables false
set_option linter.unusedSimpArgs false
set_option linter.unnecessarySimpa false

/-
  RecurModTerm: the law's walk.
-/
-- kv2
namespace Go.Proofs
open Go Go.Abs Go.Nums
attribute [local irreducible] thenA blockA awp aw Stp EndF EndP EndN EndG aOps aOpsM scopeA
set_option linter.unusedSimpArgs false
set_option linter.unusedVariables false
set_option maxHeartbeats 4000000

theorem lims_sm {l : List Int} (h : smallL l) : lims 4096 l:=lims_small fun x hx=>by have:=h.2 x hx;omega
theorem rightZ (n : Int) (h : (digs B n.natAbs).length ≤ 4096) : rightB (decide (n < 0)) (digs B n.natAbs) = true:=by
  unfold rightB
  split
  · rename_i q
    have hz : n.natAbs = 0:=(digs_nil hB).1 (List.eq_nil_of_length_eq_zero q)
    have : ¬ n < 0:=by omega
    simp [this]
  · rename_i q
    have hne : digs B n.natAbs ≠ []:=fun e=>q (by rw [e];rfl)
    have:=digs_top hB hne
    rw [getLast_getD hne] at this
    exact decide_eq_true ⟨h,this⟩
theorem allR_lims {l : List Int} (h : lims 4096 l) : allR (l.map zp) = true:=List.all_eq_true.2 fun p hp=>by
  obtain ⟨n,hn,rfl⟩:=List.mem_map.1 hp
  exact rightZ n (h n hn)
theorem len_of_blen {n K : Nat} (h : blen n ≤ 64 * K) : (digs B n).length ≤ K:=(digs_len hB).2 (by rw [show B ^ K = 2 ^ (64 * K) by rw [Nat.pow_mul]];exact (blen_le _ _).1 h)

theorem c_termS {fs bs : List Int} (hf : smallL fs) (hb : smallL bs) (hL : fs.length = bs.length) {n : Nat} (hn : n ≤ 160) : AFun Tryz.prog 11 [zsq fs,zsq bs,iv n] (.tup [wz (rowA bs fs n),ivl .i64 0]):=by
  by_cases h0 : 0 < bs.length
  · obtain ⟨h1,h2⟩:=extN_small hb hf hL hn
    refine c_term fs bs n _ (by simp [nm0,AVal.at,AVal.at1,Cell.at]) hL h0 (by have:=hb.1;omega) (by omega) (lims_sm hf) (lims_sm hb) (allR_lims (lims_sm hf)) (allR_lims (lims_sm hb)) ?_
    rw [h1]
    show _ = _
    rw [h2]
  · have e1 : bs = []:=List.eq_nil_of_length_eq_zero (by omega)
    have e2 : fs = []:=List.eq_nil_of_length_eq_zero (by omega)
    subst e1
    subst e2
    have e3 : rowA [] [] n = 0:=by
      rw [rowA_rule (b:=[]) (f:=[]) rfl n (Nat.zero_le _)];rfl
    have:=c_termNil [] [] n (by decide) (fun p hp=>by cases hp) (by decide) (fun p hp=>by cases hp) rfl rfl rfl (by omega) (by simp;omega) rfl
    rw [e3]
    have e4 : wz 0 = w0:=by
      show wi (decide ((0 : Int) < 0)) (digs B 0) = w0
      rw [digs_zero];rfl
    rw [e4]
    exact this

abbrev zNu (z : Int) : Nu:=⟨decide (z < 0),z.natAbs,0⟩
theorem zNu_val (z : Int) : (zNu z).val = z:=by
  show sg (decide (z < 0)) z.natAbs * 2 ^ 0 = z
  unfold sg
  split
  · rename_i h
    have:=of_decide_eq_true h
    omega
  · rename_i h
    have : ¬ z < 0:=fun g=>h (decide_eq_true g)
    omega
theorem zNu_ok {z : Int} {K : Nat} (h : blen z.natAbs ≤ K) : (zNu z).ok K:=⟨Int.le_refl _,by show (blen z.natAbs : Int) + 0 ≤ K;omega⟩
def sumNu (bs fs : List Int) (n : Nat) : Nat→Nu
  | 0=>⟨false,0,0⟩
  | i + 1=>(sumNu bs fs n i).plus ((zNu (bs.getD i 0)).times (zNu (rowA bs fs (n - 1 - i))))
theorem sm_blen {l : List Int} (h : smallL l) (i : Nat) : blen (l.getD i 0).natAbs ≤ 10:=(blen_le _ _).2 (Nat.lt_of_le_of_lt (smallL_get h i) (by decide))
theorem sumNu_ok {bs fs : List Int} (hf : smallL fs) (hb : smallL bs) (hL : fs.length = bs.length) {n : Nat} (hn : n ≤ 160) : ∀ i,(sumNu bs fs n i).ok (2110 + i)∧(sumNu bs fs n i).val = sumN (fun k=>bs.getD k 0 * rowA bs fs (n - 1 - k)) i
  | 0=>⟨⟨Int.le_refl _,by show (blen 0 : Int) + 0 ≤ _;have:=(blen_le 0 0).2 (by decide);omega⟩,by simp [sumNu,Nu.val,sg,sumN]⟩
  | i + 1=>by
    obtain ⟨h1,h2⟩:=sumNu_ok hf hb hL hn i
    have a1:=zNu_ok (sm_blen hb i)
    have a2:=zNu_ok (rowA_blen hb hf hL (n:=n - 1 - i) (by omega))
    have a3:=Nu.ok_times a1 a2
    have a4 : ((zNu (bs.getD i 0)).times (zNu (rowA bs fs (n - 1 - i)))).ok (2110 + i):=⟨a3.1,by have:=a3.2;omega⟩
    refine ⟨Nu.ok_plus h1 a4,?_⟩
    rw [sumNu,Nu.val_plus h1.1 a4.1,Nu.val_times a1.1 a2.1,zNu_val,zNu_val,h2]
    rfl

theorem cells_nmN {ty : TypeId} {a b : Value} {k : IntKind} {L : List Int} : (AObj.cells ty [.sc a,.ints k L,.sc b]).nm0:=fun x hx m hm=>by
  simp [AObj.cls] at hx
  rcases hx with rfl | rfl | rfl <;> exact hm

theorem l_modterm (a b : List Int) (n : Int) (s : Bool) (w : List Nat) (hla : a.length < 2 ^ 63) (hra : ∀ x ∈ a,-9223372036854775808 ≤ x∧x < 9223372036854775808) (hlb : b.length < 2 ^ 63) (hrb : ∀ x ∈ b,-9223372036854775808 ≤ x∧x < 9223372036854775808)
    (hrw : rng B w) (hlw : w.length < 2 ^ 63) : AFun Tryz.prog 5 [li a,li b,ivl .i64 n,wi s w] (bvl true):=by
  obtain ⟨k,hk⟩ : ∃ k,k = min a.length (min b.length 5):=⟨_,rfl⟩
  have hLi:=c_lists a b k hk hla hlb hra hrb
  obtain ⟨fs,hfs⟩ : ∃ fs,fs = rowF a k:=⟨_,rfl⟩
  obtain ⟨bs,hbs⟩ : ∃ bs,bs = rowF b k:=⟨_,rfl⟩
  have hf : smallL fs:=by rw [hfs];exact rowF_small a (by omega)
  have hb : smallL bs:=by rw [hbs];exact rowF_small b (by omega)
  have hL : fs.length = bs.length:=by rw [hfs,hbs,rowF_len,rowF_len];omega
  rw [← hfs,← hbs] at hLi
  have hb5:=hb.1
  have m1:=Int.emod_nonneg n (show (151 : Int) ≠ 0 by decide)
  have m2:=Int.emod_lt_of_pos n (show (0 : Int) < 151 by decide)
  obtain ⟨N,hN⟩ : ∃ N : Nat,n % 151 = (N : Int):=⟨_,(Int.toNat_of_nonneg m1).symm⟩
  have hN150 : N ≤ 150:=by omega
  have hPick : AFun Tryz.prog 20 [ivl .i64 n,iv 151] (iv N):=by
    have:=c_pick n 151 (by decide) (by decide)
    rw [show ((151 : Nat) : Int) = 151 from rfl,hN] at this
    exact this
  obtain ⟨M,hM⟩ : ∃ M,M = atl (val B (w.take 3)):=⟨_,rfl⟩
  have hMod:=c_modulus s w hrw hlw
  rw [← hM] at hMod
  have hM0 : 0 < M:=by rw [hM];unfold atl;split <;> omega
  have hMl : (digs B M).length ≤ 3:=by
    refine (digs_len hB).2 ?_
    have h1:=val_lt (rng_take hrw 3)
    have h2 : (w.take 3).length ≤ 3:=by rw [List.length_take];omega
    have h3 : B ^ (w.take 3).length ≤ B ^ 3:=Nat.pow_le_pow_right (by decide) h2
    rw [hM]
    unfold atl
    split
    · decide
    · omega
  obtain ⟨X,hX⟩ : ∃ X,X = rowA bs fs N:=⟨_,rfl⟩
  have hXb : blen X.natAbs ≤ 2100:=by rw [hX];exact rowA_blen hb hf hL (by omega)
  have hXl : (digs B X.natAbs).length ≤ 33:=len_of_blen (by omega)
  have hT:=c_termS hf hb hL (n:=N) (by omega)
  rw [← hX] at hT
  have hr1:=Int.emod_nonneg X (show (M : Int) ≠ 0 by omega)
  have hr2:=Int.emod_lt_of_pos X (show (0 : Int) < (M : Int) by omega)
  obtain ⟨R,hR⟩ : ∃ R : Nat,X % (M : Int) = (R : Int):=⟨_,(Int.toNat_of_nonneg hr1).symm⟩
  have hRM : R < M:=by omega
  have hRl : (digs B R).length ≤ 3:=Nat.le_trans (len_mono hB (Nat.le_of_lt hRM)) hMl
  have wzN : ∀ q : Nat,wz (q : Int) = wi false (digs B q):=fun q=>by
    show wi (decide ((q : Int) < 0)) (digs B (q : Int).natAbs) = _
    rw [decide_eq_false (by omega),Int.natAbs_natCast]
  have hRec : AFun Tryz.prog 16 [zsq fs,zsq bs,wi false (digs B N),wi false (digs B M)] (.tup [wi false (digs B R),ivl .i64 0]):=by
    have h1:=rightZ (N : Int) (by rw [Int.natAbs_natCast];exact Nat.le_trans ((digs_len hB (k:=1)).2 (Nat.lt_of_le_of_lt hN150 (by decide))) (by decide))
    have h2:=rightZ (M : Int) (by rw [Int.natAbs_natCast];omega)
    rw [decide_eq_false (by omega),Int.natAbs_natCast] at h1 h2
    have:=c_recmod fs bs N M hL (by omega) hM0 (by omega) ((digs_len hB (k:=1)).2 (Nat.lt_of_le_of_lt hN150 (by decide))) (lims_sm hf) (lims_sm hb) (allR_lims (lims_sm hf)) (allR_lims (lims_sm hb)) (by simp [allR,h1,h2])
    rw [modR_row hL (blen_lt N),← hX,hR,wzN R] at this
    exact this
  have hSm : AFun Tryz.prog 22 [iv N] (wi false (digs B N)):=by
    have:=c_smallZ (N : Int) (by omega) (by omega)
    rw [show vz (N : Int) = wi false (digs B N) from wzN N] at this
    exact this
  have hLeft:=c_lawleft X M hM0 (by omega) (by omega)
  rw [hR,Int.toNat_natCast] at hLeft
  have hIntR:=c_numint false (digs B R) (rng_digs hB _) (by omega)
  rw [val_digs hB] at hIntR
  have hRb : blen R ≤ 192:=by
    rw [blen_le]
    have:=(digs_len hB (n:=R) (k:=3)).1 hRl
    exact this
  have hCmp : AFun Tryz.prog 23 [nu ⟨false,R,0⟩,nu ⟨false,R,0⟩] (ivl .i64 0):=by
    have hok : (Nu.mk false R 0).ok 192:=⟨Int.le_refl _,by show (blen R : Int) + 0 ≤ _;omega⟩
    have:=c_numcompare ⟨false,R,0⟩ ⟨false,R,0⟩ 192 hok hok (by decide)
    rw [Int.sub_self] at this
    exact this
  refine aF (mu:=muF) Tryz.func5 fun S hS=>?_
  repeat refine gN ?_
  (refine zw ?_;refine s_call (hLi) ?_)
  repeat refine gN ?_
  (refine zw ?_;refine s_call (hPick) ?_)
  repeat refine gN ?_
  (refine zw ?_;refine s_call (hMod) ?_)
  repeat refine gN ?_
  (refine zw ?_;refine s_call (hT) ?_)
  repeat refine gN ?_
  (refine zw ?_;refine s_call (hSm) ?_)
  repeat refine gN ?_
  (refine zw ?_;refine s_call (hRec) ?_)
  repeat refine gN ?_
  (refine zw ?_;refine s_cmp (fun g1=>?_) (fun g1=>?_))
  · exact absurd rfl g1
  repeat refine gN ?_
  try refine stp_gT (by exact rfl) (by exact rfl) ?_
  (refine zw ?_;refine s_call (hLeft) ?_)
  repeat refine gN ?_
  try refine stp_gT (by exact rfl) (by exact rfl) ?_
  (refine zw ?_;refine s_call (hIntR) ?_)
  repeat refine gN ?_
  try refine stp_gT (by exact rfl) (by exact rfl) ?_
  (refine zw ?_;refine s_call (hCmp) ?_)
  repeat refine gN ?_
  refine s_cmp (fun g2=>?_) (fun g2=>?_)
  · exact absurd rfl g2
  repeat refine gN ?_
  have hU1 : ((fs.map zp).map rowI).length = fs.length:=by simp
  have hU2 : ((bs.map zp).map rowI).length = bs.length:=by simp
  (refine zw ?_;refine s_cmp (fun g3=>?_) (fun g3=>?_))
  · have hNf : N < fs.length:=by omega
    obtain ⟨x,hx⟩ : ∃ x,fs[N]? = some x:=⟨_,List.getElem?_eq_getElem hNf⟩
    have hYtdbjhcgogmfghaaGreatDoor : X = x:=by
      rw [hX,rowA_first bs fs hNf,List.getD_eq_getElem?_getD,hx];rfl
    have hSI : AFun Tryz.prog 26 [wz X,wz X] (bvl true):=by
      have:=c_sameint (decide (X < 0)) (decide (X < 0)) (digs B X.natAbs) (digs B X.natAbs) (by omega) (by omega)
      rw [decide_eq_true (show _∧_ from ⟨rfl,rfl⟩)] at this
      exact this
    repeat refine gN ?_
    rw [show (N : Int).toNat = N by omega,rowI_get (p:=zp X) (by rw [List.getElem?_map,hx,hYtdbjhcgogmfghaaGreatDoor];rfl)]
    repeat refine gN ?_
    (refine zw ?_;refine s_call (hSI) ?_)
    repeat refine gN ?_
    try refine stp_gT (by exact rfl) (by exact rfl) ?_
    (refine zw ?_;refine s_call (c_awakeR) ?_)
    repeat refine gN ?_
    (refine eF hS ?_ (fl':=[(8,bvl true)]);(repeat' (first | refine fJ ?_ ?_ | exact True.intro);all_goals (try (first | exact kv | exact kQ | exact kQc | exact kIc | exact kFn0 | exact kOac | (refine kW (ov_of lks) rfl ?_ ?_)))))
  have hNf : bs.length ≤ N:=by omega
  have hW0 : AFun Tryz.prog 27 [ivl .i64 0] (nu ⟨false,0,0⟩):=c_numwhole1 0 (by decide)
  repeat refine gN ?_
  (refine zw ?_;refine s_call (hW0) ?_)
  repeat refine gN ?_
  refine awp_midB (fun st=>Weak st ⟨lk' [(12,ptr (.loc 12)),(16,ptr (.loc 16))],ov [(.loc 16,.cells 49 [.sc (.bool (sumNu bs fs N bs.length).s),.ints .u64 (U (digs B (sumNu bs fs N bs.length).n)),.sc (.int .i64 (sumNu bs fs N bs.length).e)]),(.loc 12,.cells 28 [.sc (.bool (decide (X < 0))),.ints .u64 (U (digs B X.natAbs))])] (pushS S)⟩) ?_ ?_
  · refine awp_rep (fun i : Nat=>⟨lk' [(2,iv N),(9,zsq fs),(10,zsq bs),(12,ptr (.loc 12)),(16,ptr (.loc 16)),(17,iv i)],ov [(.loc 16,.cells 49 [.sc (.bool (sumNu bs fs N i).s),.ints .u64 (U (digs B (sumNu bs fs N i).n)),.sc (.int .i64 (sumNu bs fs N i).e)]),(.loc 12,.cells 28 [.sc (.bool (decide (X < 0))),.ints .u64 (U (digs B X.natAbs))])] (pushS S)⟩) (fun i=>i ≤ bs.length) (fun i=>bs.length + 1 - i) 0 (Nat.zero_le _) ?_ ?_
    · (refine fz hS ?_ ?_;all_goals (repeat' (first | refine fJ ?_ ?_ | exact True.intro));all_goals (try (first | exact kv | exact kQ | exact kQc | exact kIc | exact kFn0 | exact kOac | (refine kW (ov_of lks) rfl ?_ ?_))))
      exact .of_nm0 cells_nmN
    intro i hi
    repeat refine gN ?_
    (refine zw ?_;refine s_cmp (fun g4=>?_) (fun g4=>?_))
    · have hTi:=c_termS hf hb hL (n:=N - 1 - i) (by omega)
      obtain ⟨x,hx⟩ : ∃ x,bs[i]? = some x:=⟨_,List.getElem?_eq_getElem (by omega)⟩
      have hxD : bs.getD i 0 = x:=by rw [List.getD_eq_getElem?_getD,hx];rfl
      obtain ⟨z,hz⟩ : ∃ z,z = rowA bs fs (N - 1 - i):=⟨_,rfl⟩
      have hzb : blen z.natAbs ≤ 2100:=by rw [hz];exact rowA_blen hb hf hL (by omega)
      have hxb : blen x.natAbs ≤ 10:=by rw [← hxD];exact sm_blen hb i
      have hzl : (digs B z.natAbs).length ≤ 33:=len_of_blen (by omega)
      have hxl : (digs B x.natAbs).length ≤ 1:=len_of_blen (by omega)
      have hIx:=c_numint (decide (x < 0)) (digs B x.natAbs) (rng_digs hB _) (by omega)
      have hIz:=c_numint (decide (z < 0)) (digs B z.natAbs) (rng_digs hB _) (by omega)
      rw [val_digs hB] at hIx hIz
      have o1:=zNu_ok hxb
      have o2:=zNu_ok hzb
      have o3:=Nu.ok_times o1 o2
      have o4 : ((zNu x).times (zNu z)).ok (2110 + i):=⟨o3.1,by have:=o3.2;omega⟩
      have o5:=(sumNu_ok hf hb hL (n:=N) (by omega) i).1
      have hTm:=c_numtimes (zNu x) (zNu z) 10 2100 o1 o2 (by decide) (by decide)
      have hPl:=c_numplus (sumNu bs fs N i) ((zNu x).times (zNu z)) (2110 + i) o5 o4 (by omega)
      have hS1 : sumNu bs fs N (i + 1) = (sumNu bs fs N i).plus ((zNu x).times (zNu z)):=by rw [sumNu,hxD,← hz]
      rw [← hz] at hTi
      repeat refine gN ?_
      rw [show ((N : Int) - 1 - (i : Int)) = ((N - 1 - i : Nat) : Int) by omega]
      (refine zw ?_;refine s_call (hTi) ?_)
      repeat refine gN ?_
      (refine zw ?_;refine s_cmp (fun g5=>?_) (fun g5=>?_))
      · exact absurd rfl g5
      repeat refine gN ?_
      rw [show (i : Int).toNat = i by omega,rowI_get (p:=zp x) (by rw [List.getElem?_map,hx];rfl)]
      repeat refine gN ?_
      (refine zw ?_;refine s_call (hIx) ?_)
      repeat refine gN ?_
      (refine zw ?_;refine s_call (hIz) ?_)
      repeat refine gN ?_
      (refine zw ?_;refine s_call (hTm) ?_)
      repeat refine gN ?_
      (refine zw ?_;refine s_call (hPl) ?_)
      repeat refine gN ?_
      refine ⟨i + 1,?_,by omega,by omega⟩
      rw [hS1]
      (refine fz hS ?_ ?_;all_goals (repeat' (first | refine fJ ?_ ?_ | exact True.intro));all_goals (try (first | exact kv | exact kQ | exact kQc | exact kIc | exact kFn0 | exact kOac | (refine kW (ov_of lks) rfl ?_ ?_))))
      exact .of_nm0 cells_nmN
    · repeat refine gN ?_
      have : i = bs.length:=by omega
      subst this
      (refine fz hS ?_ ?_;all_goals (repeat' (first | refine fJ ?_ ?_ | exact True.intro));all_goals (try (first | exact kv | exact kQ | exact kQc | exact kIc | exact kFn0 | exact kOac | (refine kW (ov_of lks) rfl ?_ ?_))))
      exact .of_nm0 cells_nmN
  intro st hst
  refine awp_weak _ hst ?_
  clear hst st
  repeat refine gN ?_
  have hIX:=c_numint (decide (X < 0)) (digs B X.natAbs) (rng_digs hB _) (by omega)
  rw [val_digs hB] at hIX
  obtain ⟨o6,o7⟩:=sumNu_ok hf hb hL (n:=N) (by omega) bs.length
  have hC2 : AFun Tryz.prog 23 [nu (sumNu bs fs N bs.length),nu (zNu X)] (ivl .i64 0):=by
    have o8:=zNu_ok (z:=X) (K:=2110 + bs.length) (by omega)
    have:=c_numcompare (sumNu bs fs N bs.length) (zNu X) (2110 + bs.length) o6 o8 (by omega)
    rw [o7,zNu_val,← rowA_rule hL N hNf,← hX,Int.sub_self] at this
    exact this
  (refine zw ?_;refine s_call (hIX) ?_)
  repeat refine gN ?_
  (refine zw ?_;refine s_call (hC2) ?_)
  repeat refine gN ?_
  (refine zw ?_;refine s_cmp (fun g6=>?_) (fun g6=>?_))
  rotate_left
  · exact absurd rfl g6
  repeat refine gN ?_
  try refine stp_gT (by exact rfl) (by exact rfl) ?_
  (refine zw ?_;refine s_call (c_awakeR) ?_)
  repeat refine gN ?_
  (refine eF hS ?_ (fl':=[(8,bvl true)]);(repeat' (first | refine fJ ?_ ?_ | exact True.intro);all_goals (try (first | exact kv | exact kQ | exact kQc | exact kIc | exact kFn0 | exact kOac | (refine kW (ov_of lks) rfl ?_ ?_)))))
end Go.Proofs

/-
  RecurModTerm is true of every input, where math/bits.deBruijn64tab holds what the program's text lays (the card ties it).
-/
namespace Go.Proofs.YtdbjhcgogmfghaaGreatDoor
open Go Go.Abs Go.Nums Go.Proofs
open Go.ChangeShapes Go.WideShapes Go.ChangeAt Go.RowKit Go.Joins

set_option maxRecDepth 100000 in
theorem recurModTerm_lifted (os : Os) (started : os.Started) (H : Type) (enc : TypeId × Value→H) :
    ReturnsInHanded {} Tryz.checked os 5 .any (fun w args=>(Rows.recurModTermSpec.pre enc Tryz.prog Tryz.f5 Rows.recurModTermRow.domain false w args∧laidMetH Tryz.prog laidT w)∧sizedMet enc Tryz.prog Tryz.f5 (OpenSpec.ofChange Rows.recurModTermSpec) false w args)
      (Rows.recurModTermSpec.post enc Tryz.prog Tryz.f5 false true false false):=by
  refine returnsInHanded_of_change_and (C:=Tryz.checked) (X:=fun w _=>laidMetH Tryz.prog laidT w) (fun _ _ _ hh h=>h.of_heap hh) own started (by kernel_rfl) Tryz.func5
    (ChangeSpec.witness_shaped (enc:=enc) (C:=Tryz.checked) (os:=os) (X:=fun w _=>laidMetH Tryz.prog laidT w) false (World.doorLaid Tryz.prog 14 os) #[.slice none 0 0,.slice none 0 0,.int .i64 0,.agg #[.bool false,.slice none 0 0]] 8 rfl (World.shaped_of_RefB (by kernel_rfl) (by kernel_rfl)) (by kernel_rfl) (by kernel_rfl) (by kernel_rfl) (door_met os _)) ?_
  intro W base args ds gs before hval0 hW _ hsz hLaid _
  have hval : ∀ (j : Nat) t v,Tryz.f5.params[j]? = some t→args[j]? = some v→Value.okWide Tryz.prog W .any base t v:=hval0
  have hW':=hW
  obtain ⟨p,q,hA0,hV,rfl,_,_⟩:=hW
  have hA : DataW.TrodAll enc Tryz.prog W 0 (fun _=>true) true Tryz.f5.params.toList args.toList ds p:=hA0
  rw [Tryz.params5] at hA hval
  obtain ⟨v0,vs0,d0,ds0,p0,q0,hargs,rfl,rfl,h0,t0⟩:=trodAll_cons hA
  obtain ⟨v1,vs1,d1,ds1,p1,q1,rfl,rfl,rfl,h1,t1⟩:=trodAll_cons t0
  obtain ⟨v2,vs2,d2,ds2,p2,q2,rfl,rfl,rfl,h2,t2⟩:=trodAll_cons t1
  obtain ⟨v3,vs3,d3,ds3,p3,q3,rfl,rfl,rfl,h3,t3⟩:=trodAll_cons t2
  obtain ⟨rfl,rfl,rfl⟩:=trodAll_nil t3
  obtain rfl : args = #[v0,v1,v2,v3]:=by cases args;simp_all
  obtain ⟨rfl,rfl⟩:=trodVars_none hV
  clear hA0 hval0
  simp only [List.append_nil] at hW'
  have hlt : ∀ x ∈ p0 ++ (p1 ++ (p2 ++ p3)),x.block < W.heap.size:=fun x hx=>by simpa using hW'.lt x hx
  have hargs' : ∀ (W' : World),Below W.heap.size W W'→DataW.TrodAll enc Tryz.prog W' 0 (fun b=>decide (b < W.heap.size)) true [39,39,3,41] [v0,v1,v2,v3] [d0,d1,d2,d3] (p0 ++ (p1 ++ (p2 ++ p3))):=fun W' hn =>
    trodAll_mk4 (Below.trod laidOut (by kernel_rfl) (of_decide_eq_true (by kernel_rfl)) h0 hn fun x hx=>hlt x (by simp [hx])) (Below.trod laidOut (by kernel_rfl) (of_decide_eq_true (by kernel_rfl)) h1 hn fun x hx=>hlt x (by simp [hx])) (Below.trod laidOut (by kernel_rfl) (of_decide_eq_true (by kernel_rfl)) h2 hn fun x hx=>hlt x (by simp [hx])) (Below.trod laidOut (by kernel_rfl) (of_decide_eq_true (by kernel_rfl)) h3 hn fun x hx=>hlt x (by simp [hx]))
  obtain ⟨l0,hr0,hl0,a0⟩:=longs_in (hval 0 39 v0 rfl rfl) h0
  obtain ⟨l1,hr1,hl1,a1⟩:=longs_in (hval 1 39 v1 rfl rfl) h1
  obtain ⟨n2,rfl,rfl,rfl,wn2⟩:=open_int Tryz.underlying3 (hval 2 3 v2 rfl rfl) h2
  obtain ⟨s3,l3,hr3,hl3,a3⟩:=whole_in (hval 3 41 v3 rfl rfl) h3
  refine (calls_top (l_modterm l0 l1 n2 s3 l3 hl0 hr0 hl1 hr1 hr3 hl3) Tryz.func5 rfl (by decide) W (of_laid hLaid) #[v0,v1,.int .i64 n2,v3] (vss_cons a0 (vss_cons a1 (vss_cons vs_int (vss_cons a3 vss_nil))))).mono fun e W'=>?_
  rintro ⟨rfl,hn⟩
  exact ⟨_,rfl,⟨_,_,_,[],_,[],hW',trodAll_mk1 (shut_bool Tryz.underlying4 true),hargs' _ hn,rfl,hn.frame _,fun h=>by cases h⟩⟩

theorem recurModTerm_said : Rows.RecurModTermSaid :=
  OpenClaim.holds_of_wide 5 Tryz.f5 rfl rfl rfl rfl rfl rfl rfl ⟨rfl,rfl,rfl,rfl,rfl⟩ rfl rfl rfl rfl rfl (by kernel_rfl) Tryz.func5 (by kernel_rfl)
    (of_decide_eq_true (by kernel_rfl)) (by unfold Func.isWrapper;rw [if_neg (of_decide_eq_false (by kernel_rfl))];exact ⟨rfl,rfl⟩)
    (fun os started H enc _=>recurModTerm_lifted os started H enc)

theorem recurModTerm_holds : Rows.RecurModTermCardSaid :=
  Claim7.holds_tied_plain_at .later [] [.data] true (true,"b9d768366b2b2be78be207a966b7a006ce7c5eb75ed894847f6082fba0b5f2bc") false
    recurModTerm_said (fun _ h=>by cases h) (by kernel_rfl) (fun _ h=>by cases h) recurModTerm_row_tie rfl ⟨rfl,rfl⟩ (by kernel_rfl) rfl
    (fun f fn hf hfn=>by
      obtain rfl : f = 5:=Option.some.inj ((show Tryz.prog.funcNamed "rosette/rosettelaw25.RecurModTerm" = some 5 by kernel_rfl).symm.trans hf) |>.symm
      obtain rfl : fn = Tryz.f5:=(Option.some.inj (Tryz.func5.symm.trans hfn)).symm
      exact ⟨by kernel_rfl,fun j t ht=>by
        rw [Tryz.params5] at ht
        have hm : t ∈ [39,39,3,41]:=by simpa using Array.mem_of_getElem? ht
        have hall : ([39,39,3,41].all fun u=>!Tryz.prog.wantsStandIn u) = true:=by kernel_rfl
        exact (show Tryz.prog.wantsStandIn t = false by simpa using List.all_eq_true.1 hall t hm)⟩)
    (by kernel_rfl)
end Go.Proofs.YtdbjhcgogmfghaaGreatDoor
