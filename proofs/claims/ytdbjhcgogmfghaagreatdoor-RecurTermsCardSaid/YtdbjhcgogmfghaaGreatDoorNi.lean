/-
  Contracts of functions: part Ni (no statement by itself).
-/
import Derived.Test.YtdbjhcgogmfghaaGreatDoorNb
import Derived.Test.YtdbjhcgogmfghaaGreatDoorNf
import Derived.Test.YtdbjhcgogmfghaaGreatDoorMag
import Derived.Test.YtdbjhcgogmfghaaGreatDoorNd
import Derived.Test.YtdbjhcgogmfghaaGreatDoorNe
import Derived.Test.YtdbjhcgogmfghaaGreatDoorMaf
import Derived.Test.YtdbjhcgogmfghaaGreatDoorNh
import Derived.Test.YtdbjhcgogmfghaaGreatDoorRows
import Derived.ProofKit
import Derived.OpenShut
import Derived.LaidMore
import Derived.Lib.SmallJoins
import Derived.Lib.LaidTab
import Derived.MakeChecks
import Derived.Stop.Joined
import Derived.Test.YtdbjhcgogmfghaaGreatDoorMah
set_option linter.unusedVariables false
set_option linter.unusedSimpArgs false
set_option linter.unnecessarySimpa false

/-
  recur: Shortest's inner loops.
-/
-- kv2
-- kv4
namespace Go.Proofs
open Go Go.Abs Go.Nums
attribute [local irreducible] thenA blockA awp aw Stp EndF EndP EndN EndG aOps aOpsM scopeA
set_option linter.unusedSimpArgs false
set_option linter.unusedVariables false
set_option maxHeartbeats 4000000

noncomputable def cL : Code→Code
 | .seq a _=>a
 | .cond _ a _=>a
 | .block _ c=>c
 | .loop c=>c
 | c=>c
noncomputable def cR : Code→Code
 | .seq _ b=>b
 | .cond _ _ b=>b
 | c=>c
abbrev tL : TypeId:=2
theorem bm_bound {p : Int} {a : Nat→Int} {n : Nat} {s : BM} (h : BMI p a n s) : s.size ≤ n∧s.since ≤ n + 1∧s.now.length ≤ n + 1∧s.tn.length + s.since ≤ n + 2∧0 < s.now.length:=by
 have h1:=h.s1
 have h2:=h.g.2.1
 have h3:=h.g.1
 have h4 : 0 < s.now.length:=by
  refine Nat.pos_of_ne_zero fun e=>?_
  rw [List.eq_nil_of_length_eq_zero e] at h3
  simp at h3
 rcases h.old with ⟨q1,q2,q3⟩ | ⟨sb,nb,q1,q2,q3,-⟩ <;> omega

theorem mul_p {p : Int} (hp2 : p < 2147483648) (a b : Int) (ha : 0 ≤ a∧a < p) (hb : 0 ≤ b∧b < p) : 0 ≤ a * b∧a * b < 4611686018427387904:=by
 have h1:=Int.mul_nonneg ha.1 hb.1
 have h2:=Int.mul_le_mul (show a ≤ 2147483647 by omega) (show b ≤ 2147483647 by omega) hb.1 (by decide)
 omega

noncomputable def bmL3 : Code:=(cL (cR (cL (cR (cR (cR (cR (cR (cR (cR (cR (Tryz.f35.body.getD .skip))))))))))))
noncomputable def bmL5 : Code:=(cL (cR (cL (cR (cR (cL (cL (cR (cR (cL (cL (cR (cL (cR (cR (cR (cR (cR (cR (cR (cR (Tryz.f35.body.getD .skip))))))))))))))))))))))
noncomputable def bmL7 : Code:=(cL (cL (cR (cR (cR (cR (cR (cR (cL (cL (cR (cR (cL (cL (cR (cL (cR (cR (cR (cR (cR (cR (cR (cR (Tryz.f35.body.getD .skip)))))))))))))))))))))))))
noncomputable def bmL9 : Code:=(cL (cR (cL (cR (cR (cR (cR (cR (cR (cR (cL (cL (cR (cR (cL (cL (cR (cL (cR (cR (cR (cR (cR (cR (cR (cR (Tryz.f35.body.getD .skip)))))))))))))))))))))))))))
theorem bm_l5 {S : Store} (hS : ∀ n b,S n = some b→b.cl S) {Q : Exit→St→Prop} {p : Int} (hp0 : 0 < p) (hp2 : p < 2147483648) {row : List Int} (hrl : row.length ≤ 4096) (hrr : inR p row) {n : Nat} (hn : n < row.length) {s : BM} (b1 : s.size ≤ n) (b2 : s.since ≤ n + 1) (b3 : s.now.length ≤ n + 1) (b4 : s.tn.length + s.since ≤ n + 2) (b5 : 0 < s.now.length) (hsn : inR p s.now) (hst : inR p s.tn) (hw : 0 < s.was∧s.was < p) (off : Int) (hoff : off = offS s.now row p n s.now.length) :
  awp Tryz.prog muF Tryz.f35.ntmps bmL5 (blockA 5 (thenA (fun st=>Weak st ⟨lk' [(16,iv n),(17,ivl .i64 off),(3,pi64 p),(6,.fn 76 [.pim [.sc (.int .i64 p)]]),(7,.fn 77 [.pim [.sc (.int .i64 p)]]),(8,li row),(11,.c (.win (.loc 53) 0 s.now.length s.now.length)),(12,li s.tn),(13,iv s.size),(14,iv s.since),(15,ivl .i64 s.was),(56,iv row.length),(57,iv n)],ov [(.loc 53,.ints tL .i64 s.now)] (pushS S)⟩) Q))
   ⟨lk' [(16,iv n),(17,ivl .i64 0),(60,.c (.win (.loc 53) 0 s.now.length s.now.length)),(61,iv s.now.length),(62,iv 0),(3,pi64 p),(6,.fn 76 [.pim [.sc (.int .i64 p)]]),(7,.fn 77 [.pim [.sc (.int .i64 p)]]),(8,li row),(11,.c (.win (.loc 53) 0 s.now.length s.now.length)),(12,li s.tn),(13,iv s.size),(14,iv s.since),(15,ivl .i64 s.was),(56,iv row.length),(57,iv n)],ov [(.loc 53,.ints tL .i64 s.now)] (pushS S)⟩:=by
 have hmul:=mul_p hp2
 refine awp_rep (fun i : Nat=>⟨lk' [(16,iv n),(17,ivl .i64 (offS s.now row p n i)),(60,.c (.win (.loc 53) 0 s.now.length s.now.length)),(61,iv s.now.length),(62,iv i),(3,pi64 p),(6,.fn 76 [.pim [.sc (.int .i64 p)]]),(7,.fn 77 [.pim [.sc (.int .i64 p)]]),(8,li row),(11,.c (.win (.loc 53) 0 s.now.length s.now.length)),(12,li s.tn),(13,iv s.size),(14,iv s.since),(15,ivl .i64 s.was),(56,iv row.length),(57,iv n)],ov [(.loc 53,.ints tL .i64 s.now)] (pushS S)⟩)
  (fun i=>i ≤ s.now.length) (fun i=>s.now.length + 1 - i) 0 (Nat.zero_le _) (Weak.refl _) ?_
 intro i hi
 have ho:=offS_rng (c:=s.now) (row:=row) hp0 (n:=n) i
 repeat refine gN ?_
 (refine zw ?_;refine s_cmp (fun g3=>?_) (fun g3=>?_))
 ·have hci:=inR_get hp0 hsn i
  repeat refine gN ?_
  (refine zw ?_;refine s_cmp (fun g4=>?_) (fun g4=>?_))
  ·have hri:=inR_get hp0 hrr (n - i)
   have hm:=hmul _ _ hci hri
   repeat refine gN ?_
   rw [show ((n : Int) - i).toNat = n - i by omega]
   repeat refine gN ?_
   (refine zw ?_;refine s_callG (c_mod1 p (offS s.now row p n i + s.now.getD i 0 * row.getD (n - i) 0) hp0 (by omega) (by omega) (by omega)) ?_)
   repeat refine gN ?_
   refine ⟨i + 1,?_,by omega,by omega⟩
   rw [offS,if_pos (by omega)]
   (refine fz hS ?_ ?_;all_goals (repeat' (first | refine fJ ?_ ?_ | exact True.intro));all_goals (try (first | exact kv | exact kFn1 | exact kQ | exact kQc | exact kIc | exact kFn0 | exact kOac | (refine kW (ov_of lks) rfl ?_ ?_))))
  ·repeat refine gN ?_
   refine ⟨i + 1,?_,by omega,by omega⟩
   rw [offS,if_neg (by omega)]
   (refine fz hS ?_ ?_;all_goals (repeat' (first | refine fJ ?_ ?_ | exact True.intro));all_goals (try (first | exact kv | exact kFn1 | exact kQ | exact kQc | exact kIc | exact kFn0 | exact kOac | (refine kW (ov_of lks) rfl ?_ ?_))))
 ·repeat refine gN ?_
  have : i = s.now.length:=by omega
  subst this
  rw [← hoff]
  (refine fz hS ?_ ?_;all_goals (repeat' (first | refine fJ ?_ ?_ | exact True.intro));all_goals (try (first | exact kv | exact kFn1 | exact kQ | exact kQc | exact kIc | exact kFn0 | exact kOac | (refine kW (ov_of lks) rfl ?_ ?_))))

theorem bm_l7 {S : Store} (hS : ∀ n b,S n = some b→b.cl S) {Q : Exit→St→Prop} {p : Int} (hp0 : 0 < p) (hp2 : p < 2147483648) {row : List Int} (hrl : row.length ≤ 4096) (hrr : inR p row) {n : Nat} (hn : n < row.length) {s : BM} (b1 : s.size ≤ n) (b2 : s.since ≤ n + 1) (b3 : s.now.length ≤ n + 1) (b4 : s.tn.length + s.since ≤ n + 2) (b5 : 0 < s.now.length) (hsn : inR p s.now) (hst : inR p s.tn) (hw : 0 < s.was∧s.was < p) (off y : Int) (M : Nat) (hM : M = max s.now.length (s.tn.length + s.since)) :
  awp Tryz.prog muF Tryz.f35.ntmps bmL7 (blockA 7 (thenA (fun st=>Weak st ⟨lk' [(16,iv n),(17,ivl .i64 off),(20,li s.now),(21,ivl .i64 y),(3,pi64 p),(6,.fn 76 [.pim [.sc (.int .i64 p)]]),(7,.fn 77 [.pim [.sc (.int .i64 p)]]),(8,li row),(11,.c (.win (.loc 53) 0 M M)),(12,li s.tn),(13,iv s.size),(14,iv s.since),(15,ivl .i64 s.was),(56,iv row.length),(57,iv n)],ov [(.loc 53,.ints tL .i64 (padTo s.now (s.tn.length + s.since)))] (pushS S)⟩) Q))
   ⟨lk' [(16,iv n),(17,ivl .i64 off),(20,li s.now),(21,ivl .i64 y),(3,pi64 p),(6,.fn 76 [.pim [.sc (.int .i64 p)]]),(7,.fn 77 [.pim [.sc (.int .i64 p)]]),(8,li row),(11,.c (.win (.loc 53) 0 s.now.length s.now.length)),(12,li s.tn),(13,iv s.size),(14,iv s.since),(15,ivl .i64 s.was),(56,iv row.length),(57,iv n)],ov [(.loc 53,.ints tL .i64 s.now)] (pushS S)⟩:=by
 refine awp_rep (fun j : Nat=>⟨lk' [(16,iv n),(17,ivl .i64 off),(20,li s.now),(21,ivl .i64 y),(3,pi64 p),(6,.fn 76 [.pim [.sc (.int .i64 p)]]),(7,.fn 77 [.pim [.sc (.int .i64 p)]]),(8,li row),(11,.c (.win (.loc 53) 0 (s.now.length + j) (s.now.length + j))),(12,li s.tn),(13,iv s.size),(14,iv s.since),(15,ivl .i64 s.was),(56,iv row.length),(57,iv n)],ov [(.loc 53,.ints tL .i64 (s.now ++ List.replicate j 0))] (pushS S)⟩)
  (fun j=>s.now.length + j ≤ M) (fun j=>M - (s.now.length + j)) 0 (by omega) (by rw [List.replicate_zero,List.append_nil];exact Weak.refl _) ?_
 intro j hj
 repeat refine gN ?_
 (refine zw ?_;refine s_cmp (fun g4=>?_) (fun g4=>?_))
 ·repeat refine gN ?_
  refine aw_appOwn ttOk (q:=53) (Y:=[0]) (len:=s.now.length + j) (cm:=s.now.length + j) ?_ ?_ ?_
  rotate_left
  ·exact srcE_win (L:=[0]) lks (by simp)
  ·exact ⟨by omega,by simp,by decide,by show _ + 1 ≤ _;omega⟩
  repeat refine gN ?_
  refine ⟨j + 1,?_,by omega,by omega⟩
  have e : List.take (s.now.length + j) (s.now ++ List.replicate j 0) ++ [0] = s.now ++ List.replicate (j + 1) 0:=by
   rw [List.take_of_length_le (by simp),List.append_assoc,← List.replicate_succ']
  rw [e]
  refine Weak.trans (b:=⟨lk' [(16,iv n),(17,ivl .i64 off),(20,li s.now),(21,ivl .i64 y),(3,pi64 p),(6,.fn 76 [.pim [.sc (.int .i64 p)]]),(7,.fn 77 [.pim [.sc (.int .i64 p)]]),(8,li row),(11,.c (.win (.loc 105) 0 (s.now.length + (j + 1)) (s.now.length + (j + 1)))),(12,li s.tn),(13,iv s.size),(14,iv s.since),(15,ivl .i64 s.was),(56,iv row.length),(57,iv n)],ov [(.loc 105,.ints tL .i64 (s.now ++ List.replicate (j + 1) 0))] (pushS S)⟩) ?_ ?_
  ·(refine fz hS ?_ ?_;all_goals (repeat' (first | refine fJ ?_ ?_ | exact True.intro));all_goals (try (first | exact kv | exact kFn1 | exact kQ | exact kQc | exact kIc | exact kFn0 | exact kOac | (refine kW (ov_of lks) rfl ?_ ?_))))
  ·refine Weak.ren1 ints_nm0 ?_
   repeat' (first | exact trivial | refine ⟨⟨_,rfl,rW⟩,?_⟩ | refine ⟨⟨_,rfl,rK⟩,?_⟩ | refine ⟨⟨_,rfl,rK (by simp [AVal.at,AVal.at1,Cell.at])⟩,?_⟩)
 ·repeat refine gN ?_
  have e : s.now ++ List.replicate j 0 = padTo s.now (s.tn.length + s.since):=by
   rw [padTo,show s.tn.length + s.since - s.now.length = j by omega]
  rw [e,show s.now.length + j = M by omega]
  (refine fz hS ?_ ?_;all_goals (repeat' (first | refine fJ ?_ ?_ | exact True.intro));all_goals (try (first | exact kv | exact kFn1 | exact kQ | exact kQc | exact kIc | exact kFn0 | exact kOac | (refine kW (ov_of lks) rfl ?_ ?_))))

theorem bm_l9 {S : Store} (hS : ∀ n b,S n = some b→b.cl S) {Q : Exit→St→Prop} {p : Int} (hp0 : 0 < p) (hp2 : p < 2147483648) {row : List Int} (hrl : row.length ≤ 4096) (hrr : inR p row) {n : Nat} (hn : n < row.length) {s : BM} (b1 : s.size ≤ n) (b2 : s.since ≤ n + 1) (b3 : s.now.length ≤ n + 1) (b4 : s.tn.length + s.since ≤ n + 2) (b5 : 0 < s.now.length) (hsn : inR p s.now) (hst : inR p s.tn) (hw : 0 < s.was∧s.was < p) (off y : Int) (hyr : 0 ≤ y∧y < p) (M : Nat) (hM : M = max s.now.length (s.tn.length + s.since)) (c0 : List Int) (hpl : c0.length = M) (hc0r : inR p c0) :
  awp Tryz.prog muF Tryz.f35.ntmps bmL9 (blockA 9 (thenA (fun st=>Weak st ⟨lk' [(16,iv n),(17,ivl .i64 off),(20,li s.now),(3,pi64 p),(6,.fn 76 [.pim [.sc (.int .i64 p)]]),(7,.fn 77 [.pim [.sc (.int .i64 p)]]),(8,li row),(11,.c (.win (.loc 53) 0 M M)),(12,li s.tn),(13,iv s.size),(14,iv s.since),(15,ivl .i64 s.was),(56,iv row.length),(57,iv n)],ov [(.loc 53,.ints tL .i64 (subS s.tn y p s.since s.tn.length c0))] (pushS S)⟩) Q))
   ⟨lk' [(106,li s.tn),(107,iv s.tn.length),(108,iv 0),(16,iv n),(17,ivl .i64 off),(20,li s.now),(21,ivl .i64 y),(3,pi64 p),(6,.fn 76 [.pim [.sc (.int .i64 p)]]),(7,.fn 77 [.pim [.sc (.int .i64 p)]]),(8,li row),(11,.c (.win (.loc 53) 0 M M)),(12,li s.tn),(13,iv s.size),(14,iv s.since),(15,ivl .i64 s.was),(56,iv row.length),(57,iv n)],ov [(.loc 53,.ints tL .i64 c0)] (pushS S)⟩:=by
 have hmul:=mul_p hp2
 refine awp_rep (fun i : Nat=>⟨lk' [(106,li s.tn),(107,iv s.tn.length),(108,iv i),(16,iv n),(17,ivl .i64 off),(20,li s.now),(21,ivl .i64 y),(3,pi64 p),(6,.fn 76 [.pim [.sc (.int .i64 p)]]),(7,.fn 77 [.pim [.sc (.int .i64 p)]]),(8,li row),(11,.c (.win (.loc 53) 0 M M)),(12,li s.tn),(13,iv s.size),(14,iv s.since),(15,ivl .i64 s.was),(56,iv row.length),(57,iv n)],ov [(.loc 53,.ints tL .i64 (subS s.tn y p s.since i c0))] (pushS S)⟩)
  (fun i=>i ≤ s.tn.length) (fun i=>s.tn.length + 1 - i) 0 (Nat.zero_le _) (Weak.refl _) ?_
 intro i hi
 obtain ⟨D,hD⟩ : ∃ D,D = subS s.tn y p s.since i c0:=⟨_,rfl⟩
 have hDr : inR p D:=by rw [hD];exact subS_rng hp0 hc0r i
 have hDl : D.length = M:=by rw [hD,subS_len,hpl]
 rw [← hD]
 repeat refine gN ?_
 (refine zw ?_;refine s_cmp (fun g4=>?_) (fun g4=>?_))
 ·have hti:=inR_get hp0 hst i
  have hci:=inR_get hp0 hDr (i + s.since)
  have hm2:=hmul y _ hyr hti
  have hm3:=Int.emod_nonneg (y * s.tn.getD i 0) (show p ≠ 0 by omega)
  have hm4:=Int.emod_lt_of_pos (y * s.tn.getD i 0) hp0
  repeat refine gN ?_
  rw [show (i : Int).toNat = i by omega]
  repeat refine gN ?_
  (refine zw ?_;refine s_callG (c_mod1 p (D.getD (i + s.since) 0 - y * s.tn.getD i 0 % p) hp0 (by omega) (by omega) (by omega)) ?_)
  repeat refine gN ?_
  refine ⟨i + 1,?_,by omega,by omega⟩
  rw [subS,← hD]
  (refine fz hS ?_ ?_;all_goals (repeat' (first | refine fJ ?_ ?_ | exact True.intro));all_goals (try (first | exact kv | exact kFn1 | exact kQ | exact kQc | exact kIc | exact kFn0 | exact kOac | (refine kW (ov_of lks) rfl ?_ ?_))))
 ·repeat refine gN ?_
  have : i = s.tn.length:=by omega
  subst this
  rw [hD]
  (refine fz hS ?_ ?_;all_goals (repeat' (first | refine fJ ?_ ?_ | exact True.intro));all_goals (try (first | exact kv | exact kFn1 | exact kQ | exact kQc | exact kIc | exact kFn0 | exact kOac | (refine kW (ov_of lks) rfl ?_ ?_))))
end Go.Proofs

/-
  recur: Shortest, where it is not refused: Berlekamp's and Massey's way.
-/
-- kv2
-- kv4
namespace Go.Proofs
open Go Go.Abs Go.Nums
attribute [local irreducible] thenA blockA awp aw Stp EndF EndP EndN EndG aOps aOpsM scopeA
set_option linter.unusedSimpArgs false
set_option linter.unusedVariables false
set_option maxHeartbeats 4000000

def shortF (p : Int) (l : List Int) : List Int × Int :=
 let s:=bmRun (invE p) (l.map (· % p)) p l.length
 if l.length < 2 * s.size then ([],340) else (outS s.now p s.size,0)

theorem bm_l3 {S : Store} (hS : ∀ n b,S n = some b→b.cl S) {Q : Exit→St→Prop} {p : Int} (hp : 1 < p) (hp2 : p < 2147483648) (hco : ∀ x,0 < x→x < p→Int.gcd x p = 1) {row : List Int} (hrl : row.length ≤ 4096) (hrr : inR p row) :
  awp Tryz.prog muF Tryz.f35.ntmps bmL3 (blockA 3 (thenA (fun st=>∃ s,s = bmRun (invE p) row p row.length∧Weak st ⟨lk' [(3,pi64 p),(6,.fn 76 [.pim [.sc (.int .i64 p)]]),(8,li row),(11,.c (.win (.loc 53) 0 s.now.length s.now.length)),(13,iv s.size)],ov [(.loc 53,.ints tL .i64 s.now)] (pushS S)⟩) Q)) ⟨lk' [(3,pi64 p),(6,.fn 76 [.pim [.sc (.int .i64 p)]]),(7,.fn 77 [.pim [.sc (.int .i64 p)]]),(8,li row),(11,.c (.win (.loc 53) 0 1 1)),(12,li [1]),(13,iv 0),(14,iv 1),(15,ivl .i64 1),(56,iv row.length),(57,iv 0)],ov [(.loc 53,.ints tL .i64 [1])] (pushS S)⟩:=by
 have hp0 : 0 < p:=by omega
 have hmul:=mul_p hp2
 have hinv : ∀ x,0 < x→x < p→x * invE p x % p = 1:=fun x h1 h2=>invE_ok hp (hco x h1 h2)
 have hB:=bmi_run hp hinv row
 refine awp_rep2 (fun (n : Nat) (s : BM)=>⟨lk' [(3,pi64 p),(6,.fn 76 [.pim [.sc (.int .i64 p)]]),(7,.fn 77 [.pim [.sc (.int .i64 p)]]),(8,li row),(11,.c (.win (.loc 53) 0 s.now.length s.now.length)),(12,li s.tn),(13,iv s.size),(14,iv s.since),(15,ivl .i64 s.was),(56,iv row.length),(57,iv n)],ov [(.loc 53,.ints tL .i64 s.now)] (pushS S)⟩)
  (fun n s=>n ≤ row.length∧s = bmRun (invE p) row p n) (fun n _=>row.length + 1 - n) 0 ⟨[1],[1],0,1,1⟩ ⟨Nat.zero_le _,rfl⟩ (Weak.refl _) ?_
 rintro n s ⟨hn,hs⟩
 have hI:=hB n
 rw [← hs] at hI
 obtain ⟨b1,b2,b3,b4,b5⟩:=bm_bound hI
 have hsn:=hI.r
 have hst:=hI.tr
 have hw:=hI.w
 repeat refine gN ?_
 (refine zw ?_;refine s_cmp (fun g2=>?_) (fun g2=>?_))
 rotate_left
 ·have : n = row.length:=by omega
  subst this
  repeat refine gN ?_
  refine ⟨s,hs,?_⟩
  (refine fz hS ?_ ?_;all_goals (repeat' (first | refine fJ ?_ ?_ | exact True.intro));all_goals (try (first | exact kv | exact kFn1 | exact kQ | exact kQc | exact kIc | exact kFn0 | exact kOac | (refine kW (ov_of lks) rfl ?_ ?_))))
 repeat refine gN ?_
 obtain ⟨off,hoff⟩ : ∃ off,off = offS s.now row p n s.now.length:=⟨_,rfl⟩
 refine awp_midB (fun st=>Weak st ⟨lk' [(16,iv n),(17,ivl .i64 off),(3,pi64 p),(6,.fn 76 [.pim [.sc (.int .i64 p)]]),(7,.fn 77 [.pim [.sc (.int .i64 p)]]),(8,li row),(11,.c (.win (.loc 53) 0 s.now.length s.now.length)),(12,li s.tn),(13,iv s.size),(14,iv s.since),(15,ivl .i64 s.was),(56,iv row.length),(57,iv n)],ov [(.loc 53,.ints tL .i64 s.now)] (pushS S)⟩) ?_ ?_
 ·refine awp_weak _ ?_ (bm_l5 hS hp0 hp2 (by omega) hrr (by omega) b1 b2 b3 b4 b5 hsn hst hw off hoff)
  (refine fz hS ?_ ?_;all_goals (repeat' (first | refine fJ ?_ ?_ | exact True.intro));all_goals (try (first | exact kv | exact kFn1 | exact kQ | exact kQc | exact kIc | exact kFn0 | exact kOac | (refine kW (ov_of lks) rfl ?_ ?_))))
 intro st hst2
 refine awp_weak _ hst2 ?_
 clear hst2 st
 have hor:=offS_rng (c:=s.now) (row:=row) hp0 (n:=n) s.now.length
 rw [← hoff] at hor
 repeat refine gN ?_
 (refine zw ?_;refine s_cmp (fun g3=>?_) (fun g3=>?_))
 ·repeat refine gN ?_
  have hs' : (⟨s.now,s.tn,s.size,s.since + 1,s.was⟩ : BM) = bmRun (invE p) row p (n + 1):=by
   rw [bmRun,← hs];unfold bmStep;rw [← hoff,if_pos g3]
  refine ⟨n + 1,_,?_,⟨by omega,hs'⟩,by omega⟩
  (refine fz hS ?_ ?_;all_goals (repeat' (first | refine fJ ?_ ?_ | exact True.intro));all_goals (try (first | exact kv | exact kFn1 | exact kQ | exact kQc | exact kIc | exact kFn0 | exact kOac | (refine kW (ov_of lks) rfl ?_ ?_))))
 repeat refine gN ?_
 (refine zw ?_;refine s_read ((c_cloneP (.loc 53) s.now s.now.length (by omega) b5).read ⟨_,List.mem_cons_self,rfl⟩) ?_ preX)
 repeat refine gN ?_
 have hir:=invE_rng (x:=s.was) hp0
 have hm:=hmul _ _ hor hir
 (refine zw ?_;refine s_callG (c_inv1 p s.was hp hp2 hw.1 hw.2 (hco _ hw.1 hw.2)) ?_)
 repeat refine gN ?_
 (refine zw ?_;refine s_callG (c_mod1 p (off * invE p s.was) hp0 (by omega) (by omega) (by omega)) ?_)
 obtain ⟨y,hy⟩ : ∃ y,y = off * invE p s.was % p:=⟨_,rfl⟩
 have hyr : 0 ≤ y∧y < p:=by rw [hy];exact ⟨Int.emod_nonneg _ (by omega),Int.emod_lt_of_pos _ hp0⟩
 rw [← hy]
 repeat refine gN ?_
 obtain ⟨M,hM⟩ : ∃ M,M = max s.now.length (s.tn.length + s.since):=⟨_,rfl⟩
 have hpl : (padTo s.now (s.tn.length + s.since)).length = M:=by rw [padTo_len,hM]
 refine awp_midB (fun st=>Weak st ⟨lk' [(16,iv n),(17,ivl .i64 off),(20,li s.now),(21,ivl .i64 y),(3,pi64 p),(6,.fn 76 [.pim [.sc (.int .i64 p)]]),(7,.fn 77 [.pim [.sc (.int .i64 p)]]),(8,li row),(11,.c (.win (.loc 53) 0 M M)),(12,li s.tn),(13,iv s.size),(14,iv s.since),(15,ivl .i64 s.was),(56,iv row.length),(57,iv n)],ov [(.loc 53,.ints tL .i64 (padTo s.now (s.tn.length + s.since)))] (pushS S)⟩) ?_ ?_
 ·refine awp_weak _ ?_ (bm_l7 hS hp0 hp2 (by omega) hrr (by omega) b1 b2 b3 b4 b5 hsn hst hw off y M hM)
  (refine fz hS ?_ ?_;all_goals (repeat' (first | refine fJ ?_ ?_ | exact True.intro));all_goals (try (first | exact kv | exact kFn1 | exact kQ | exact kQc | exact kIc | exact kFn0 | exact kOac | (refine kW (ov_of lks) rfl ?_ ?_))))
 intro st hst2
 refine awp_weak _ hst2 ?_
 clear hst2 st
 obtain ⟨c0,hc0⟩ : ∃ c0,c0 = padTo s.now (s.tn.length + s.since):=⟨_,rfl⟩
 have hc0r : inR p c0:=by rw [hc0];exact padTo_rng hp0 hsn _
 rw [← hc0] at hpl ⊢
 repeat refine gN ?_
 refine awp_midB (fun st=>Weak st ⟨lk' [(16,iv n),(17,ivl .i64 off),(20,li s.now),(3,pi64 p),(6,.fn 76 [.pim [.sc (.int .i64 p)]]),(7,.fn 77 [.pim [.sc (.int .i64 p)]]),(8,li row),(11,.c (.win (.loc 53) 0 M M)),(12,li s.tn),(13,iv s.size),(14,iv s.since),(15,ivl .i64 s.was),(56,iv row.length),(57,iv n)],ov [(.loc 53,.ints tL .i64 (subS s.tn y p s.since s.tn.length c0))] (pushS S)⟩) ?_ ?_
 ·refine awp_weak _ ?_ (bm_l9 hS hp0 hp2 (by omega) hrr (by omega) b1 b2 b3 b4 b5 hsn hst hw off y hyr M hM c0 hpl hc0r)
  (refine fz hS ?_ ?_;all_goals (repeat' (first | refine fJ ?_ ?_ | exact True.intro));all_goals (try (first | exact kv | exact kFn1 | exact kQ | exact kQc | exact kIc | exact kFn0 | exact kOac | (refine kW (ov_of lks) rfl ?_ ?_))))
 intro st hst2
 refine awp_weak _ hst2 ?_
 clear hst2 st
 have hcM : (subS s.tn y p s.since s.tn.length c0).length = M:=by rw [subS_len,hpl]
 repeat refine gN ?_
 (refine zw ?_;refine s_cmp (fun g4=>?_) (fun g4=>?_))
 ·have hs' : (⟨subS s.tn y p s.since s.tn.length c0,s.tn,s.size,s.since + 1,s.was⟩ : BM) = bmRun (invE p) row p (n + 1):=by
   rw [bmRun,← hs];unfold bmStep;rw [← hoff,if_neg g3,if_pos (by omega),← hy,← hc0]
  rw [← hcM]
  repeat refine gN ?_
  refine ⟨n + 1,_,?_,⟨by omega,hs'⟩,by omega⟩
  (refine fz hS ?_ ?_;all_goals (repeat' (first | refine fJ ?_ ?_ | exact True.intro));all_goals (try (first | exact kv | exact kFn1 | exact kQ | exact kQc | exact kIc | exact kFn0 | exact kOac | (refine kW (ov_of lks) rfl ?_ ?_))))
 ·have hs' : (⟨subS s.tn y p s.since s.tn.length c0,s.now,n + 1 - s.size,1,off⟩ : BM) = bmRun (invE p) row p (n + 1):=by
   rw [bmRun,← hs];unfold bmStep;rw [← hoff,if_neg g3,if_neg (by omega),← hy,← hc0]
  rw [← hcM]
  repeat refine gN ?_
  rw [show ((n + 1 : Nat) : Int) - (s.size : Int) = ((n + 1 - s.size : Nat) : Int) by omega]
  repeat refine gN ?_
  refine ⟨n + 1,_,?_,⟨by omega,hs'⟩,by omega⟩
  (refine fz hS ?_ ?_;all_goals (repeat' (first | refine fJ ?_ ?_ | exact True.intro));all_goals (try (first | exact kv | exact kFn1 | exact kQ | exact kQc | exact kIc | exact kFn0 | exact kOac | (refine kW (ov_of lks) rfl ?_ ?_))))
end Go.Proofs

/-
  recur: Shortest, where it is not refused.
-/
-- kv2
-- kv4
namespace Go.Proofs
open Go Go.Abs Go.Nums
attribute [local irreducible] thenA blockA awp aw Stp EndF EndP EndN EndG aOps aOpsM scopeA
set_option linter.unusedSimpArgs false
set_option linter.unusedVariables false
set_option maxHeartbeats 4000000

theorem c_shortrow (l : List Int) (p : Int) (hp : 1 < p) (hp2 : p < 2147483648) (hpB : primeB p = true) (hco : ∀ x,0 < x→x < p→Int.gcd x p = 1) (hl : l.length ≤ 4096) (hr : ∀ x ∈ l,-9223372036854775808 ≤ x∧x < 9223372036854775808) :
  AFun Tryz.prog 35 [li l,ivl .i64 p] (.tup [li (shortF p l).1,ivl .i64 (shortF p l).2]):=by
 have hinv : ∀ x,0 < x→x < p→x * invE p x % p = 1:=fun x h1 h2=>invE_ok hp (hco x h1 h2)
 obtain ⟨row,hrow⟩ : ∃ row,row = l.map (· % p):=⟨_,rfl⟩
 have hrl : row.length = l.length:=by rw [hrow,List.length_map]
 have hrr : inR p row:=fun x hx=>by
  rw [hrow] at hx
  obtain ⟨y,-,rfl⟩:=List.mem_map.1 hx
  exact ⟨Int.emod_nonneg _ (by omega),Int.emod_lt_of_pos _ (by omega)⟩
 have hB:=bmi_run hp hinv row
 refine aF (mu:=muF) Tryz.func35 fun S hS=>?_
 repeat refine gN ?_
 (refine zw ?_;refine s_call (c_prime p (by omega) (by omega)) ?_)
 rw [hpB]
 repeat refine gN ?_
 (refine zw ?_;refine s_cmp (fun g=>?_) (fun g=>?_))
 ·exact absurd g (by omega)
 repeat refine gN ?_
 have hp0 : 0 < p:=by omega
 refine awp_midB (fun st=>Weak st ⟨lk' [(3,pi64 p),(6,.fn 76 [.pim [.sc (.int .i64 p)]]),(7,.fn 77 [.pim [.sc (.int .i64 p)]]),(8,li row)],ov [] (pushS S)⟩) ?_ ?_
 ·
  refine awp_rep (fun i : Nat=>⟨lk' [(3,pi64 p),(6,.fn 76 [.pim [.sc (.int .i64 p)]]),(7,.fn 77 [.pim [.sc (.int .i64 p)]]),(8,.c (.win (.loc 38) 0 row.length row.length)),(39,li l),(40,iv l.length),(41,iv i)],ov [(.loc 38,.ints tL .i64 (row.take i ++ List.replicate (row.length - i) 0))] (pushS S)⟩)
   (fun i=>i ≤ row.length) (fun i=>row.length + 1 - i) 0 (by omega) ?_ ?_
  ·(refine fz hS ?_ ?_;all_goals (repeat' (first | refine fJ ?_ ?_ | exact True.intro));all_goals (try (first | exact kv | exact kFn1 | exact kQ | exact kQc | exact kIc | exact kFn0 | exact kOac | (refine kW (ov_of lks) rfl ?_ ?_))))
   ·exact kO (by simp [hrl])
   ·exact kFnP (ov_of lks) rfl
   ·exact kFnP (ov_of lks) rfl
  intro i hi
  repeat refine gN ?_
  (refine zw ?_;refine s_cmp (fun g2=>?_) (fun g2=>?_))
  ·have hil : i < l.length:=by omega
   obtain ⟨x,hx⟩ : ∃ x,l[i]? = some x:=⟨_,List.getElem?_eq_getElem hil⟩
   have hxr:=hr x (List.mem_of_getElem? hx)
   have hxD : l.getD i 0 = x:=by rw [List.getD_eq_getElem?_getD,hx];rfl
   have hrD : row.getD i 0 = x % p:=by rw [hrow,List.getD_eq_getElem?_getD,List.getElem?_map,hx];rfl
   repeat refine gN ?_
   rw [show (i : Int).toNat = i by omega,hxD]
   repeat refine gN ?_
   (refine zw ?_;refine s_callG (c_mod1 p x hp0 (by omega) hxr.1 hxr.2) ?_)
   repeat refine gN ?_
   rw [set_build (by omega) rfl hrD.symm]
   refine ⟨i + 1,?_,by omega,by omega⟩
   (refine fz hS ?_ ?_;all_goals (repeat' (first | refine fJ ?_ ?_ | exact True.intro));all_goals (try (first | exact kv | exact kFn1 | exact kQ | exact kQc | exact kIc | exact kFn0 | exact kOac | (refine kW (ov_of lks) rfl ?_ ?_))))
  ·repeat refine gN ?_
   have : i = row.length:=by omega
   subst this
   rw [List.take_length,Nat.sub_self,List.replicate_zero,List.append_nil]
   (refine fz hS ?_ ?_;all_goals (repeat' (first | refine fJ ?_ ?_ | exact True.intro));all_goals (try (first | exact kv | exact kFn1 | exact kQ | exact kQc | exact kIc | exact kFn0 | exact kOac | (refine kW (ov_of lks) rfl ?_ ?_))))
   ·simp
   ·simp
 intro st hst
 refine awp_weak _ hst ?_
 clear hst st
 repeat refine gN ?_
 refine awp_midB (fun st=>∃ s,s = bmRun (invE p) row p row.length∧Weak st ⟨lk' [(3,pi64 p),(6,.fn 76 [.pim [.sc (.int .i64 p)]]),(8,li row),(11,.c (.win (.loc 53) 0 s.now.length s.now.length)),(13,iv s.size)],ov [(.loc 53,.ints tL .i64 s.now)] (pushS S)⟩) ?_ ?_
 ·refine awp_weak _ ?_ (bm_l3 hS hp hp2 hco (by omega) hrr)
  (refine fz hS ?_ ?_;all_goals (repeat' (first | refine fJ ?_ ?_ | exact True.intro));all_goals (try (first | exact kv | exact kFn1 | exact kQ | exact kQc | exact kIc | exact kFn0 | exact kOac | (refine kW (ov_of lks) rfl ?_ ?_))))
  ·simp
  ·rfl
 rintro st ⟨s,hs,hst⟩
 refine awp_weak _ hst ?_
 clear hst st
 have hI:=hB row.length
 rw [← hs] at hI
 obtain ⟨b1,b2,b3,b4,b5⟩:=bm_bound hI
 have hsn:=hI.r
 have hF : shortF p l = if l.length < 2 * s.size then ([],340) else (outS s.now p s.size,0):=by
  unfold shortF
  rw [← hrow,← hrl,← hs]
 rw [hF]
 repeat refine gN ?_
 (refine zw ?_;refine s_cmp (fun g2=>?_) (fun g2=>?_))
 ·rw [if_pos (by omega)]
  repeat refine gN ?_
  (refine eF hS ?_ (fl':=[(4,li []),(5,ivl .i64 340)]);(repeat' (first | refine fJ ?_ ?_ | exact True.intro);all_goals (try (first | exact kv | exact kFn1 | exact kQ | exact kQc | exact kIc | exact kFn0 | exact kOac | (refine kW (ov_of lks) rfl ?_ ?_)))))
 rw [if_neg (by omega)]
 have hol:=outS_len s.now p s.size
 repeat refine gN ?_
 refine awp_midB (fun st=>Weak st ⟨lk' [(24,.c (.win (.loc 152) 0 s.size s.size))],ov [(.loc 152,.ints tL .i64 (outS s.now p s.size))] (pushS S)⟩) ?_ ?_
 ·refine awp_rep (fun i : Nat=>⟨lk' [(6,.fn 76 [.pim [.sc (.int .i64 p)]]),(11,.c (.win (.loc 53) 0 s.now.length s.now.length)),(24,.c (.win (.loc 152) 0 s.size s.size)),(153,iv s.size),(154,iv i)],ov [(.loc 152,.ints tL .i64 ((outS s.now p s.size).take i ++ List.replicate (s.size - i) 0)),(.loc 53,.ints tL .i64 s.now)] (pushS S)⟩)
   (fun i=>i ≤ s.size) (fun i=>s.size + 1 - i) 0 (Nat.zero_le _) ?_ ?_
  ·(refine fz hS ?_ ?_;all_goals (repeat' (first | refine fJ ?_ ?_ | exact True.intro));all_goals (try (first | exact kv | exact kFn1 | exact kQ | exact kQc | exact kIc | exact kFn0 | exact kOac | (refine kW (ov_of lks) rfl ?_ ?_))))
  intro i hi
  repeat refine gN ?_
  (refine zw ?_;refine s_cmp (fun g3=>?_) (fun g3=>?_))
  ·have hoi:=outS_get (now:=s.now) (p:=p) (size:=s.size) (i:=i) (by omega)
   have hni:=inR_get hp0 hsn (i + 1)
   repeat refine gN ?_
   (refine zw ?_;refine s_cmp (fun g4=>?_) (fun g4=>?_))
   ·repeat refine gN ?_
    rw [Int.zero_sub]
    (refine zw ?_;refine s_callG (c_mod1 p (-(s.now.getD (i + 1) 0)) hp0 (by omega) (by omega) (by omega)) ?_)
    repeat refine gN ?_
    rw [set_build (by omega) (by omega) hoi.symm]
    refine ⟨i + 1,?_,by omega,by omega⟩
    (refine fz hS ?_ ?_;all_goals (repeat' (first | refine fJ ?_ ?_ | exact True.intro));all_goals (try (first | exact kv | exact kFn1 | exact kQ | exact kQc | exact kIc | exact kFn0 | exact kOac | (refine kW (ov_of lks) rfl ?_ ?_))))
   ·have hoz : s.now.getD (i + 1) 0 = 0:=getD_out (by omega)
    rw [hoz,Int.neg_zero,Int.zero_emod] at hoi
    rw [skip_build (by omega) (by omega) hoi]
    repeat refine gN ?_
    refine ⟨i + 1,?_,by omega,by omega⟩
    (refine fz hS ?_ ?_;all_goals (repeat' (first | refine fJ ?_ ?_ | exact True.intro));all_goals (try (first | exact kv | exact kFn1 | exact kQ | exact kQc | exact kIc | exact kFn0 | exact kOac | (refine kW (ov_of lks) rfl ?_ ?_))))
  ·repeat refine gN ?_
   have : i = s.size:=by omega
   subst this
   rw [List.take_of_length_le (by omega),Nat.sub_self,List.replicate_zero,List.append_nil]
   (refine fz hS ?_ ?_;all_goals (repeat' (first | refine fJ ?_ ?_ | exact True.intro));all_goals (try (first | exact kv | exact kFn1 | exact kQ | exact kQc | exact kIc | exact kFn0 | exact kOac | (refine kW (ov_of lks) rfl ?_ ?_))))
 intro st hst
 refine awp_weak _ hst ?_
 clear hst st
 repeat refine gN ?_
 (refine eF hS ?_ (fl':=[(4,li (outS s.now p s.size)),(5,ivl .i64 0)]);(repeat' (first | refine fJ ?_ ?_ | exact True.intro);all_goals (try (first | exact kv | exact kFn1 | exact kQ | exact kQc | exact kIc | exact kFn0 | exact kOac | (refine kW (ov_of lks) rfl ?_ ?_)))))
 ·omega
 ·rw [List.drop_zero,List.take_of_length_le (by omega)]
end Go.Proofs

/-
  Numbers that no number up to their root divides are prime to all below them.
-/
namespace Go.Proofs
open Go Go.Abs Go.Nums

def noDiv (p : Nat) : Nat→Nat→Nat→Bool
 | 0,lo,n=>(List.range n).all fun i=>p % (lo + i) != 0
 | f + 1,lo,n=>if n ≤ 64 then (List.range n).all fun i=>p % (lo + i) != 0 else noDiv p f lo (n / 2) && noDiv p f (lo + n / 2) (n - n / 2)
theorem noDiv_ok {p : Nat} : ∀ (f lo n : Nat),noDiv p f lo n = true→∀ d,lo ≤ d→d < lo + n→p % d ≠ 0
 | 0,lo,n,h,d,h1,h2=>by
  have:=List.all_eq_true.1 h (d - lo) (by simp;omega)
  rw [show lo + (d - lo) = d by omega] at this
  simpa using this
 | f + 1,lo,n,h,d,h1,h2=>by
  rw [noDiv] at h
  split at h
  ·have:=List.all_eq_true.1 h (d - lo) (by simp;omega)
   rw [show lo + (d - lo) = d by omega] at this
   simpa using this
  ·rw [Bool.and_eq_true] at h
   by_cases hd : d < lo + n / 2
   ·exact noDiv_ok f lo (n / 2) h.1 d h1 hd
   ·exact noDiv_ok f (lo + n / 2) (n - n / 2) h.2 d (by omega) (by omega)
theorem prm_gcd {p f n : Nat} (h : noDiv p f 2 n = true) (hn : p < (n + 2) * (n + 2)) (x : Int) (h1 : 0 < x) (h2 : x < p) : Int.gcd x p = 1:=by
 have hno : ∀ d,2 ≤ d→d < n + 2→p % d ≠ 0:=fun d h3 h4=>noDiv_ok f 2 n h d h3 (by omega)
 obtain ⟨g,hg⟩ : ∃ g,g = Int.gcd x p:=⟨_,rfl⟩
 have hgx : g ∣ x.natAbs:=by rw [hg];exact Nat.gcd_dvd_left _ _
 have hgp : g ∣ p:=by
  have : g ∣ (p : Int).natAbs:=by rw [hg];exact Nat.gcd_dvd_right _ _
  simpa using this
 have hgl : g ≤ x.natAbs:=Nat.le_of_dvd (by omega) hgx
 obtain ⟨k,hk⟩:=hgp
 rw [← hg]
 refine Decidable.byContradiction fun hne=>?_
 have hg0 : g ≠ 0:=fun e=>by rw [e,Nat.zero_mul] at hk;omega
 have hk1 : 2 ≤ k:=by
  refine Nat.le_of_not_lt fun q=>?_
  have : g * k ≤ g * 1:=Nat.mul_le_mul_left _ (by omega)
  omega
 rcases Nat.lt_or_ge g (n + 2) with q | q
 ·exact hno g (by omega) q (by rw [hk];exact Nat.mul_mod_right _ _)
 ·have : k < n + 2:=by
   refine Nat.lt_of_not_ge fun q2=>?_
   have:=Nat.mul_le_mul q q2
   omega
  exact hno k hk1 this (by rw [hk];exact Nat.mul_mod_left _ _)
theorem gcd_101 : ∀ x : Int,0 < x→x < 101→Int.gcd x 101 = 1:=prm_gcd (p:=101) (f:=0) (n:=9) (by decide) (by decide)
end Go.Proofs

/-
  recur: what the laws ask of primes and of one list, reckoned.
-/
namespace Go.Proofs
open Go Go.Abs Go.Nums
theorem pB_101 : primeB 101 = true:=by decide +kernel
theorem short_awake : shortF 101 [0,1,1,2,3,5,8,13] = ([1,1],0):=by decide +kernel
end Go.Proofs

/-
  Lists of structs made with room; rows put behind one another where there is room.
-/
namespace Go.Abs
open Go

theorem s_makeR {P : Program} {T : TT} {mu : FuncId→Bool} {ops : Array Oper} {fl : FL} {sl : SL} {S : Store} {K : St→Prop} {d : Nat} {ty : TypeId} {pos : String} {after : Array Edge} {t e : TypeId} {l c : Operand} {b sz nb : Nat} {ka kb : IntKind} {z : List Cell} (hT : TOk P T)
  (hb : (nb : Int) * b ≤ 281474976710656∧b ≤ 9223372036854775807) (kk : K ⟨lk' ((d,.c (.win (.loc d) 0 0 b)) :: fl),ov ((.loc d,.cells e (rep b z)) :: sl) (pushS S)⟩)
  (ht : undT T t = some (.slice e):=by exact rfl) (hc1 : celT T e = sz + 1:=by exact rfl) (hb8 : bytT T e = some nb:=by exact rfl) (hz : zerF T e = some z:=by exact rfl) (hzl : z.length = sz + 1:=by exact rfl)
  (hl : opO fl l = some (ivl ka 0):=by exact rfl) (hc : opO fl c = some (ivl kb (b : Int)):=by exact rfl) (hf : freeO sl d = true:=by exact fro) :
  Stp P mu ops ⟨some d,.makeSlice t l c,ty,pos,after,none⟩ ⟨lk' fl,ov sl (pushS S)⟩ K:=by
 have ht:=hT.und ht
 have hc1:=hT.cel hc1 (by simp)
 have hb8:=hT.byt hb8
 obtain ⟨h1,h2⟩:=zerF_spec hT hz
 refine ⟨_,⟨_,_,⟨d,.cells e (rep b z),rfl,freeO_spec hf,⟨e,z,ht,by omega,h1,by omega,h2,?_⟩,rfl⟩,rfl⟩,by rw [putF_lk,upd_ov];exact kk⟩
 rw [opO_look hl,opO_look hc]
 refine ⟨Int.le_refl _,by omega,by rw [hb8];exact hb.1,by omega,.inl ⟨?_,.inl ?_⟩⟩
 ·rfl
 ·rfl

theorem s_appRC {P : Program} {T : TT} {mu : FuncId→Bool} {ops : Array Oper} {fl : FL} {sl : SL} {S : Store} {K : St→Prop} {d : Nat} {ty : TypeId} {pos : String} {after : Array Edge} {s x : Operand} {tys : Array TypeId} {t e : TypeId} {as_ : Array Operand} {m : Nm} {sz : Nat} {cs : List Cell} {Y : List (List Cell)} {len cm : Nat} {xv : AVal} {z : Value} (hT : TOk P T)
  (hY : srcR (ov sl S) xv (sz + 1) Y) (hl : len + Y.length ≤ cm∧(len + Y.length) * (sz + 1) ≤ cs.length) (kk : K ⟨lk' ((d,.c (.win m 0 (len + Y.length) cm)) :: killL m fl),ov ((m,.cells e (spl cs (len * (sz + 1)) Y.flatten)) :: sl) S⟩)
  (ha : as_.toList = [s,x]:=by exact rfl) (ht : tys.toList = [t,t]:=by exact rfl) (hu : undT T t = some (.slice e):=by exact rfl) (hc1 : celT T e = sz + 1:=by exact rfl) (hz : zerT T e = some z:=by exact rfl) (hzl : zlen z (sz + 1) = true:=by exact rfl)
  (hs : opO fl s = some (.c (.win m 0 len cm)):=by exact rfl) (hx : opO fl x = some xv:=by exact rfl) (hm : lkS sl m = some (.cells e cs):=by exact lks) :
  Stp P mu ops ⟨some d,.call ⟨.builtin .append,as_,tys⟩,ty,pos,after,none⟩ ⟨lk' fl,ov sl S⟩ K:=stp_appRC hT ha ht hu hc1 (Nat.succ_pos _) hz hzl hs hx hm hY hl kk

theorem spl_row {A : List Cell} {z y : List Cell} {m k n : Nat} (hm : m = k + 1) (hz : y.length = z.length) (hn : n = A.length) : spl (A ++ rep m z) n y = A ++ y ++ rep k z:=by
 subst hm
 subst hn
 rw [spl,List.take_left,List.append_assoc,List.append_assoc]
 congr 2
 rw [← List.drop_drop,List.drop_left,hz,rep,List.replicate_succ,List.flatten_cons,List.drop_left]
 rfl

end Go.Abs

/-
  The reference: short, NatDown, Cut.
-/
namespace Go.Proofs
open Go Go.Abs Go.Nums
attribute [local irreducible] thenA blockA awp aw Stp EndF EndP EndN EndG aOps
set_option linter.unusedSimpArgs false
set_option maxHeartbeats 4000000

namespace Nu
end Nu

end Go.Proofs

/-
  The reference: times, less (in place).
-/
namespace Go.Proofs
open Go Go.Abs Go.Nums
attribute [local irreducible] thenA blockA awp aw Stp EndF EndP EndN EndG aOps
set_option linter.unusedSimpArgs false
set_option maxHeartbeats 4000000

end Go.Proofs

/-
  The reference: long, NatDiv.
-/
namespace Go.Proofs
open Go Go.Abs Go.Nums
attribute [local irreducible] thenA blockA awp aw Stp EndF EndP EndN EndG aOps
set_option linter.unusedSimpArgs false
set_option maxHeartbeats 4000000

theorem parts {u : List Nat} {i m : Nat} (h : i + m + 1 ≤ u.length) : u = u.take i ++ (u.drop i).take (m + 1) ++ u.drop (i + m + 1):=by
 have h1 : u = u.take i ++ u.drop i:=(List.take_append_drop i u).symm
 have h2 : u.drop i = (u.drop i).take (m + 1) ++ u.drop (i + m + 1):=by
  conv=>lhs;rw [← List.take_append_drop (m + 1) (u.drop i)]
  rw [List.drop_drop,Nat.add_assoc]
 rw [List.append_assoc,← h2,← h1]

end Go.Proofs

/-
  The reference: NatDiv; RightInt, Told, the numbers of chapter 16.
-/
namespace Go.Proofs
open Go Go.Abs Go.Nums
attribute [local irreducible] thenA blockA awp aw Stp EndF EndP EndN EndG aOps
set_option linter.unusedSimpArgs false
set_option maxHeartbeats 4000000

end Go.Proofs

/-
  The kit: mark, LentLimbs, LentInt, KeptLimbs, KeptInt: a list with room behind it that is marked.
-/
namespace Go.Proofs
open Go Go.Abs Go.Nums
attribute [local irreducible] thenA blockA awp aw Stp EndF EndP EndN EndG EndT aOps
set_option linter.unusedSimpArgs false
set_option maxHeartbeats 4000000

theorem c_mark1 (i : Nat) (h : i < 2 ^ 60) : AFun Tryz.prog 85 [iv 1,iv i] (iv (8000024 + i : Nat)):=by
 refine aF (mu:=muF) Tryz.func85 fun S hS=>?_
 repeat refine gO ?_
 (refine eF hS ?_ (fl':=[(4,iv (8000024 + i : Nat))]);(repeat' (first | refine fJ ?_ ?_ | exact True.intro);all_goals (try (first | exact kv | (refine kW (ov_of lks) rfl ?_ ?_)))))

def mks (i : Nat) : List Nat:=(List.range i).map fun j=>8000024 + j
theorem mks_succ (i : Nat) : mks (i + 1) = mks i ++ [8000024 + i]:=by simp [mks,List.range_succ]
theorem mks_len (i : Nat) : (mks i).length = i:=by simp [mks]
theorem mks_get {i j : Nat} (h : j < i) : (mks i).getD j 0 = 8000024 + j:=by simp [mks,h]

theorem put_at (X R : List Int) (y : Int) (k : Nat) (h : X.length = k) : List.take k (X ++ R) ++ [y] ++ List.drop (k + 1) (X ++ R) = X ++ [y] ++ R.drop 1:=by
 subst h
 rw [List.take_left,← List.drop_drop,List.drop_left]
theorem lent_put (l : List Nat) (i : Nat) (hi : i < 12) : List.take (l.length + i) (U (l ++ mks i ++ List.replicate (12 - i) 0)) ++ [((8000024 + i : Nat) : Int)] ++ List.drop (l.length + i + 1) (U (l ++ mks i ++ List.replicate (12 - i) 0)) = U (l ++ mks (i + 1) ++ List.replicate (12 - (i + 1)) 0):=by
 obtain ⟨j,hj⟩ : ∃ j,12 - i = j + 1:=⟨11 - i,by omega⟩
 rw [show 12 - (i + 1) = j by omega,hj,show U (l ++ mks i ++ List.replicate (j + 1) 0) = U (l ++ mks i) ++ U (List.replicate (j + 1) 0) from List.map_append,put_at _ _ _ _ (by rw [U_len,List.length_append,mks_len]),mks_succ]
 simp [U,List.replicate_succ]

theorem c_lentlimbs (l : List Nat) (hl : l.length ≤ 17592186043904) : AFun Tryz.prog 50 [us l] (.c (.intc .u64 (U (l ++ mks 12)) l.length)):=by
 refine aF (mu:=muF) Tryz.func50 fun S hS=>?_
 repeat refine gN ?_
 (refine zw ?_;refine s_appR ttOk (Y:=U l) srcE_ints ?_ ?_)
 ·rw [U_len];simp;omega
 refine aw_weak ⟨lk' [(0,us l),(11,.c (.win (.loc 8) 0 l.length (l.length + 12)))],ov [(.loc 8,.ints 55 .u64 (U (l ++ mks 0 ++ List.replicate 12 0)))] (pushS S)⟩ ?_ ?_
 ·(refine fz hS ?_ ?_;all_goals (repeat' (first | refine fJ ?_ ?_ | exact True.intro));all_goals (try (first | exact kv | (refine kW (ov_of lks) rfl ?_ ?_))))
  ·refine kO ?_
   have e:=U_len l
   simp [U,mks]
   rw [show ((l.length : Int) + 12).toNat = l.length + 12 by omega]
   simp
  ·exact kWin (ovNe lks) rfl (by rw [U_len];simp) (by omega)
 repeat refine gN ?_
 refine awp_rep (ι:=Nat) (fun i=>⟨lk' [(0,us l),(3,.c (.win (.loc 8) 0 (l.length + i) (l.length + 12))),(4,iv i)],ov [(.loc 8,.ints 55 .u64 (U (l ++ mks i ++ List.replicate (12 - i) 0)))] (pushS S)⟩) (fun i=>i ≤ 12) (fun i=>12 - i) 0 (Nat.zero_le _) ?_ ?_
 ·(refine fz hS ?_ ?_;all_goals (repeat' (first | refine fJ ?_ ?_ | exact True.intro));all_goals (try (first | exact kv | (refine kW (ov_of lks) rfl ?_ ?_))))
 intro i hi
 have hlen : (U (l ++ mks i ++ List.replicate (12 - i) 0)).length = l.length + 12:=by rw [U_len];simp [mks_len];omega
 repeat refine gN ?_
 (refine zw ?_;refine s_cmp (fun g=>?_) (fun g=>?_))
 ·repeat refine gN ?_
  (refine zw ?_;refine s_call (c_mark1 i (by omega)) ?_)
  repeat refine gN ?_
  (refine zw ?_;refine s_appR ttOk (Y:=[((8000024 + i : Nat) : Int)]) ?_ ?_ ?_;(· exact srcE_win (L:=[((8000024 + i : Nat) : Int)]) lks (by simp)))
  ·rw [hlen];simp;omega
  repeat refine gN ?_
  refine ⟨i + 1,?_,by omega,by omega⟩
  (refine fz hS ?_ ?_;all_goals (repeat' (first | refine fJ ?_ ?_ | exact True.intro));all_goals (try (first | exact kv | (refine kW (ov_of lks) rfl ?_ ?_))))
  exact kO (lent_put l i (by omega))
 ·repeat refine gN ?_
  have : i = 12:=by omega
  subst this
  repeat refine gN ?_
  (refine eF hS ?_ (fl':=[(2,.c (.intc .u64 (U (l ++ mks 12)) l.length))]);(repeat' (first | refine fJ ?_ ?_ | exact True.intro);all_goals (try (first | exact kv | (refine kW (ov_of lks) rfl ?_ ?_)))))
  exact kWc (ov_of lks) rfl (by rw [U_len];simp [mks_len]) (by rw [List.drop_zero];rw [List.take_of_length_le (by rw [U_len];simp [mks_len])];simp) (by omega)

theorem c_lentint (s : Bool) (l : List Nat) (hl : l.length ≤ 17592186043904) : AFun Tryz.prog 15 [wi s l] (.agg [.sc (.bool s),.intc .u64 (U (l ++ mks 12)) l.length]):=by
 refine afunT (mu:=muF) Tryz.func15 rfl (by decide) rfl (by decide) (Nat.le_of_ble_eq_true rfl) (by simp [nm0,AVal.at,AVal.at1,Cell.at]) (by simp [nm0,AVal.at,AVal.at1,Cell.at]) fun S hS=>?_
 repeat refine gN ?_
 (refine zw ?_;refine s_call (c_lentlimbs l hl) ?_)
 repeat refine gN ?_
 (refine endT ttOk (.inr rfl) (by exact rfl) (by exact rfl) (by exact rfl) (by exact rfl))

theorem mk_get (l : List Nat) (i : Nat) (h0 : l.length ≤ i) (h : i < l.length + 12) : (U (l ++ mks 12)).getD i 0 = ((8000024 + (i - l.length) : Nat) : Int):=by
 rw [U,List.getD_eq_getElem?_getD,List.getElem?_map,List.getElem?_append_right h0]
 have:=mks_get (i:=12) (j:=i - l.length) (by omega)
 rw [List.getD_eq_getElem?_getD] at this
 rw [List.getElem?_eq_getElem (by rw [mks_len];omega)] at this ⊢
 simp only [Option.getD_some,Option.map_some] at this ⊢
 rw [this];rfl
theorem mk_get0 (l : List Nat) (i : Nat) (h : i < l.length) : (U (l ++ mks 12)).getD i 0 = ((l.getD i 0 : Nat) : Int):=by
 rw [U,List.getD_eq_getElem?_getD,List.getElem?_map,List.getElem?_append_left h,List.getD_eq_getElem?_getD,List.getElem?_eq_getElem h]
 rfl

theorem kIC {A B : Store} {k : IntKind} {L L' : List Int} {n n' : Nat} (h1 : L = L') (h2 : n = n') : FrzV A B (.c (.intc k L n)) (.c (.intc k L' n')):=by
 subst h1;subst h2;exact .c (.base (.keep (fun m h=>h.elim)))

theorem c_keptlimbs (l : List Nat) (hl : l.length < 2 ^ 60) : AFun Tryz.prog 63 [.c (.intc .u64 (U (l ++ mks 12)) l.length),us l] (bvl true):=by
 have hlen : (U (l ++ mks 12)).length = l.length + 12:=by rw [U_len];simp [mks_len]
 refine aF (mu:=muF) Tryz.func63 fun S hS=>?_
 repeat refine gN ?_
 (refine zw ?_;refine s_cmp (fun g=>?_) (fun g=>?_))
 ·omega
 repeat refine gN ?_
 refine awp_rep (ι:=Nat) (fun i=>⟨lk' [(1,us l),(4,bvl false),(5,.c (.intc .u64 (U (l ++ mks 12)) (l.length + 12))),(6,iv i)],ov [] (pushS S)⟩) (fun i=>i ≤ l.length + 12) (fun i=>l.length + 12 - i) 0 (Nat.zero_le _) ?_ ?_
 ·(refine fz hS ?_ ?_;all_goals (repeat' (first | refine fJ ?_ ?_ | exact True.intro));all_goals (try (first | exact kv | (refine kW (ov_of lks) rfl ?_ ?_))))
  exact kIC rfl (by omega)
 intro i hi
 repeat refine gN ?_
 (refine zw ?_;refine s_cmp (fun g1=>?_) (fun g1=>?_))
 ·repeat refine gN ?_
  (refine zw ?_;refine s_cmp (fun g2=>?_) (fun g2=>?_))
  ·repeat refine gN ?_
   have e:=mk_get0 l i (by omega)
   rw [show ((i : Int)).toNat = i by omega,e]
   (refine zw ?_;refine s_cmp (fun g3=>?_) (fun g3=>?_))
   ·repeat refine gN ?_
    (refine zw ?_;refine s_cmp (fun g4=>?_) (fun g4=>?_))
    ·omega
    ·repeat refine gN ?_
     refine ⟨i + 1,?_,by omega,by omega⟩
     (refine fz hS ?_ ?_;all_goals (repeat' (first | refine fJ ?_ ?_ | exact True.intro));all_goals (try (first | exact kv | (refine kW (ov_of lks) rfl ?_ ?_))))
     exact kIC rfl rfl
   ·exact absurd rfl g3
  ·repeat refine gN ?_
   (refine zw ?_;refine s_cmp (fun g4=>?_) (fun g4=>?_))
   ·repeat refine gN ?_
    have e:=mk_get l i (by omega) (by omega)
    rw [show ((i : Int)).toNat = i by omega,e]
    rw [show ((i : Int) - (l.length : Int)) = ((i - l.length : Nat) : Int) by omega]
    (refine zw ?_;refine s_call (c_mark1 (i - l.length) (by omega)) ?_)
    repeat refine gN ?_
    (refine zw ?_;refine s_cmp (fun g3=>?_) (fun g3=>?_))
    ·repeat refine gN ?_
     refine ⟨i + 1,?_,by omega,by omega⟩
     (refine fz hS ?_ ?_;all_goals (repeat' (first | refine fJ ?_ ?_ | exact True.intro));all_goals (try (first | exact kv | (refine kW (ov_of lks) rfl ?_ ?_))))
     exact kIC rfl rfl
    ·exact absurd rfl g3
   ·omega
 ·repeat refine gN ?_
  (refine eF hS ?_ (fl':=[(4,bvl true)]);(repeat' (first | refine fJ ?_ ?_ | exact True.intro);all_goals (try (first | exact kv | (refine kW (ov_of lks) rfl ?_ ?_)))))

theorem aleLent (s : Bool) (l : List Nat) : ALe (.agg [.sc (.bool s),.intc .u64 (U (l ++ mks 12)) l.length]) (wi s l):=by
 refine ⟨rfl,fun i x y h1 h2=>?_⟩
 match i with
 | 0=>simp only [List.getElem?_cons_zero,Option.some.injEq] at h1 h2;subst h1;subst h2;exact .inl rfl
 | 1 =>
  simp only [List.getElem?_cons_succ,List.getElem?_cons_zero,Option.some.injEq] at h1 h2;subst h1;subst h2
  refine .inr (.inr (.inl ⟨_,_,_,rfl,by rw [U_len];simp,?_⟩))
  rw [show U (l ++ mks 12) = U l ++ U (mks 12) from List.map_append,List.take_left' (U_len l)]
 | i + 2=>simp at h1

theorem c_keptint (s : Bool) (l : List Nat) (hl : l.length < 2 ^ 60) : AFun Tryz.prog 18 [.agg [.sc (.bool s),.intc .u64 (U (l ++ mks 12)) l.length],wi s l] (bvl true):=by
 refine aF (mu:=muF) Tryz.func18 fun S hS=>?_
 repeat refine gN ?_
 (refine zw ?_;refine s_call (c_sameint s s l l hl hl) ?_ (hle:=by repeat (first | exact trivial | refine ⟨ALe.refl _,?_⟩ | refine ⟨aleLent _ _,?_⟩)))
 rw [decide_eq_true (show s = s∧l = l from ⟨rfl,rfl⟩)]
 repeat refine gN ?_
 (refine zw ?_;refine s_call (c_keptlimbs l hl) ?_)
 repeat refine gN ?_
 (refine eF hS ?_ (fl':=[(4,bvl true)]);(repeat' (first | refine fJ ?_ ?_ | exact True.intro);all_goals (try (first | exact kv | (refine kW (ov_of lks) rfl ?_ ?_)))))
end Go.Proofs

/-
  The reference: Floor, of numbers that are not below 0.
-/
namespace Go.Proofs
open Go Go.Abs Go.Nums
attribute [local irreducible] thenA blockA awp aw Stp EndF EndP EndN EndG EndT aOps
set_option linter.unusedSimpArgs false
set_option maxHeartbeats 4000000

end Go.Proofs

/-
  The reference: Floor of numbers below 0.
-/
namespace Go.Proofs
open Go Go.Abs Go.Nums
attribute [local irreducible] thenA blockA awp aw Stp EndF EndP EndN EndG EndT aOps
set_option linter.unusedSimpArgs false
set_option maxHeartbeats 4000000

end Go.Proofs

/-
  Powers modulo the rule's polynomial tell the row's numbers.
-/
namespace Go.Proofs
open Go Go.Abs Go.Nums

def rep (a : Nat→Int) (m : Int) (p : List Int) (e : Nat) : Prop:=∀ k,eqm m (tells a p p.length k) (a (e + k))
theorem rep_one (a : Nat→Int) (m : Int) : rep a m [1] 0:=fun k=>by
 show sumN _ 1 % m = _ % m
 simp [sumN]
end Go.Proofs

/-
  What Mod tells is the row's number, modulo m.
-/
namespace Go.Proofs
open Go Go.Abs Go.Nums

end Go.Proofs

/-
  Rows by short rules of small numbers: how great their numbers are; so none of them is too long.
-/
namespace Go.Proofs
open Go Go.Abs Go.Nums

end Go.Proofs

/-
  The laws of recur: lists of small numbers, the modulus.
-/
-- kv2
namespace Go.Proofs
open Go Go.Abs Go.Nums
attribute [local irreducible] thenA blockA awp aw Stp EndF EndP EndN EndG aOps aOpsM scopeA
set_option linter.unusedSimpArgs false
set_option linter.unusedVariables false
set_option maxHeartbeats 4000000

end Go.Proofs

/-
  The laws of recur: awake.
-/
-- kv2
namespace Go.Proofs
open Go Go.Abs Go.Nums
attribute [local irreducible] thenA blockA awp aw Stp EndF EndP EndN EndG aOps aOpsM scopeA
set_option linter.unusedSimpArgs false
set_option linter.unusedVariables false
set_option maxHeartbeats 4000000

theorem ext_awake : extN [1,1] 9 [0,1] = some [0,1,1,2,3,5,8,13,21,34,55]:=by decide +kernel
theorem mod_awake : modR [0,1] [1,1] 7 10 (blen 10) = 6:=by decide +kernel
theorem lims_small {l : List Int} (h : ∀ x ∈ l,x.natAbs < 18446744073709551616) : lims 4096 l:=fun x hx=>Nat.le_trans (lim1 (K:=1) (by decide) (h x hx)) (by decide)

theorem c_samelongsP (z : Nm) (a b : List Int) (ha : a.length < 2 ^ 60) (hb : b.length < 2 ^ 60) : AProc Tryz.prog 36 [li a,.c (.win z 0 b.length b.length)] [(z,.ints 2 .i64 b)] [(z,.ints 2 .i64 b)] (bvl (decide (a = b))):=by
 obtain ⟨R,hR⟩ : ∃ R,R = decide (a = b):=⟨_,rfl⟩
 rw [← hR]
 (refine aproc1 (mu:=muF) Tryz.func36 rfl (by decide) rfl (by decide) (Nat.le_of_ble_eq_true rfl) (by simp [AVal.at,AVal.at1,Cell.at]) (by simp [AVal.at,AVal.at1,Cell.at]) (by simp [AVal.at,AVal.at1,Cell.at]) nmX nmX fun S hS=>?_;simp only [List.map_cons,List.map_nil,AVal.map,AVal.map1,Cell.map])
 repeat refine gN ?_
 (refine zw ?_;refine s_cmp (fun g=>?_) (fun g=>?_))
 ·have e1 : R = false:=by rw [hR];exact decide_eq_false fun e=>g (by rw [e])
  rw [e1]
  repeat refine gN ?_
  (refine endP1 ttOk (fl':=[(4,bvl false)]) (.inr rfl) hS lks nmX (by intro m hm;simp [lkS,addL,delL,Nm.isLoc,hm]) ?_ ?_ (by exact rfl) (by exact rfl) (by exact rfl))
  ·rfl
  ·(repeat' (first | refine fJ ?_ ?_ | exact True.intro);all_goals (try (first | exact kvA | exact kOac | (refine kW (ov_of lks) rfl ?_ ?_))))
 have hab : a.length = b.length:=by omega
 repeat refine gN ?_
 refine awp_rep (fun i : Nat=>⟨lk' [(0,li a),(1,.c (.win (.out z) 0 b.length b.length)),(5,iv i)],ov [(.out z,.ints 2 .i64 b)] (pushS S)⟩) (fun i=>i ≤ a.length∧∀ j,j < i→a.getD j 0 = b.getD j 0) (fun i=>a.length + 1 - i) 0 ⟨Nat.zero_le _,fun j hj=>by omega⟩ ?_ ?_
 ·(refine fz hS ?_ ?_;all_goals (repeat' (first | refine fJ ?_ ?_ | exact True.intro));all_goals (try (first | exact kvA | exact kOac | (refine kW (ov_of lks) rfl ?_ ?_))))
 rintro i ⟨hi,hs⟩
 repeat refine gN ?_
 (refine zw ?_;refine s_cmp (fun g2=>?_) (fun g2=>?_))
 rotate_left
 ·have : i = a.length:=by omega
  have e : a = b:=by
   refine List.ext_getElem? fun j=>?_
   by_cases hj : j < a.length
   ·have:=hs j (by omega)
    rw [List.getD_eq_getElem?_getD,List.getD_eq_getElem?_getD,List.getElem?_eq_getElem hj,List.getElem?_eq_getElem (by omega)] at this
    rw [List.getElem?_eq_getElem hj,List.getElem?_eq_getElem (by omega)]
    exact congrArg some this
   ·rw [List.getElem?_eq_none (by omega),List.getElem?_eq_none (by omega)]
  have e1 : R = true:=by rw [hR];exact decide_eq_true e
  rw [e1]
  repeat refine gN ?_
  (refine endP1 ttOk (fl':=[(4,bvl true)]) (.inr rfl) hS lks nmX (by intro m hm;simp [lkS,addL,delL,Nm.isLoc,hm]) ?_ ?_ (by exact rfl) (by exact rfl) (by exact rfl))
  ·rfl
  ·(repeat' (first | refine fJ ?_ ?_ | exact True.intro);all_goals (try (first | exact kvA | exact kOac | (refine kW (ov_of lks) rfl ?_ ?_))))
 repeat refine gN ?_
 (refine zw ?_;refine s_cmp (fun g3=>?_) (fun g3=>?_))
 ·have e1 : R = false:=by
   rw [hR]
   refine decide_eq_false fun e=>g3 ?_
   rw [e]
   simp
  rw [e1]
  repeat refine gN ?_
  (refine endP1 ttOk (fl':=[(4,bvl false)]) (.inr rfl) hS lks nmX (by intro m hm;simp [lkS,addL,delL,Nm.isLoc,hm]) ?_ ?_ (by exact rfl) (by exact rfl) (by exact rfl))
  ·rfl
  ·(repeat' (first | refine fJ ?_ ?_ | exact True.intro);all_goals (try (first | exact kvA | exact kOac | (refine kW (ov_of lks) rfl ?_ ?_))))
 repeat refine gN ?_
 refine ⟨i + 1,?_,⟨by omega,fun j hj=>?_⟩,by omega⟩
 ·(refine fz hS ?_ ?_;all_goals (repeat' (first | refine fJ ?_ ?_ | exact True.intro));all_goals (try (first | exact kvA | exact kOac | (refine kW (ov_of lks) rfl ?_ ?_))))
 ·rcases Nat.lt_or_ge j i with q | q
  ·exact hs j q
  ·have : j = i:=by omega
   subst this
   have:=Decidable.not_not.1 g3
   simpa using this

theorem c_awakeR : AFun Tryz.prog 9 [] (bvl true):=by
 have l01 : lims 4096 [0,1]:=lims_small (by decide)
 have l11 : lims 4096 [1,1]:=lims_small (by decide)
 have r01 : allR ([0,1].map zp) = true:=by decide +kernel
 have r11 : allR ([1,1].map zp) = true:=by decide +kernel
 have hT : AFun Tryz.prog 11 [zsq [0,1],zsq [1,1],ivl .i64 10] (.tup [wz 55,ivl .i64 0]) :=
  c_term [0,1] [1,1] 10 _ (by simp [nm0,AVal.at,AVal.at1,Cell.at]) rfl (by decide) (by decide) (by decide) l01 l11 r01 r11 (by
   rw [show (10 + 1 - [(0 : Int),1].length) = 9 from rfl,ext_awake]
   rfl)
 have hM : AFun Tryz.prog 16 [zsq [0,1],zsq [1,1],wi false (digs B 10),wi false (digs B 7)] (.tup [wz 6,ivl .i64 0]):=by
  have:=c_recmod [0,1] [1,1] 10 7 rfl (by decide) (by decide) (Nat.le_trans ((digs_len hB (k:=1)).2 (by decide)) (by decide)) ((digs_len hB (k:=1)).2 (by decide)) l01 l11 r01 r11 (by decide +kernel)
  rw [show ((7 : Nat) : Int) = 7 from rfl,mod_awake] at this
  exact this
 have hSh : AFun Tryz.prog 35 [li [0,1,1,2,3,5,8,13],ivl .i64 101] (.tup [li [1,1],ivl .i64 0]):=by
  have:=c_shortrow [0,1,1,2,3,5,8,13] 101 (by decide) (by decide) pB_101 gcd_101 (by decide) (by decide)
  rw [short_awake] at this
  exact this
 have hI1 : AFun Tryz.prog 13 [wz 55,ivl .i64 0,vz 55,ivl .i64 0] (bvl true):=by
  have:=c_lawis (decide ((55 : Int) < 0)) (decide ((55 : Int) < 0)) (digs B (55 : Int).natAbs) (digs B (55 : Int).natAbs) 0 0 (Nat.lt_of_le_of_lt ((digs_len hB (n:=55) (k:=1)).2 (by decide)) (by decide)) (Nat.lt_of_le_of_lt ((digs_len hB (n:=55) (k:=1)).2 (by decide)) (by decide))
  rw [decide_eq_true (show _∧_∧_ from ⟨rfl,rfl,rfl⟩)] at this
  exact this
 have hI2 : AFun Tryz.prog 13 [wz 6,ivl .i64 0,vz 6,ivl .i64 0] (bvl true):=by
  have:=c_lawis (decide ((6 : Int) < 0)) (decide ((6 : Int) < 0)) (digs B (6 : Int).natAbs) (digs B (6 : Int).natAbs) 0 0 (Nat.lt_of_le_of_lt ((digs_len hB (n:=6) (k:=1)).2 (by decide)) (by decide)) (Nat.lt_of_le_of_lt ((digs_len hB (n:=6) (k:=1)).2 (by decide)) (by decide))
  rw [decide_eq_true (show _∧_∧_ from ⟨rfl,rfl,rfl⟩)] at this
  exact this
 have hL : AFun Tryz.prog 36 [li [1,1],li [1,1]] (bvl true):=by
  have:=c_samelongs [1,1] [1,1] (by decide) (by decide)
  rw [decide_eq_true (show [(1 : Int),1] = [1,1] from rfl)] at this
  exact this
 refine aF (mu:=muF) Tryz.func9 fun S hS=>?_
 repeat refine gN ?_
 ((first | refine aw_fz 8 ?_ ?_ | refine awp_fz 8 ?_ ?_);rotate_left;· (repeat' (first | exact True.intro | refine And.intro ?_ ?_)) <;> first | (show _ ≤ _;simp;done) | (show _ ≤ _;simp;omega) | (show _ ≤ _;omega))
 (refine zw ?_;refine s_call (c_lawsmall [0,1] (by decide) (by decide)) ?_)
 repeat refine gN ?_
 ((first | refine aw_fz 10 ?_ ?_ | refine awp_fz 10 ?_ ?_);rotate_left;· (repeat' (first | exact True.intro | refine And.intro ?_ ?_)) <;> first | (show _ ≤ _;simp;done) | (show _ ≤ _;simp;omega) | (show _ ≤ _;omega))
 (refine zw ?_;refine s_call (c_lawsmall [1,1] (by decide) (by decide)) ?_)
 repeat refine gN ?_
 (refine zw ?_;refine s_call (hT) ?_)
 repeat refine gN ?_
 ((first | refine aw_fz 16 ?_ ?_ | refine awp_fz 16 ?_ ?_);rotate_left;· (repeat' (first | exact True.intro | refine And.intro ?_ ?_)) <;> first | (show _ ≤ _;simp;done) | (show _ ≤ _;simp;omega) | (show _ ≤ _;omega))
 (refine zw ?_;refine s_call (c_lawsmall [0,1] (by decide) (by decide)) ?_)
 repeat refine gN ?_
 ((first | refine aw_fz 18 ?_ ?_ | refine awp_fz 18 ?_ ?_);rotate_left;· (repeat' (first | exact True.intro | refine And.intro ?_ ?_)) <;> first | (show _ ≤ _;simp;done) | (show _ ≤ _;simp;omega) | (show _ ≤ _;omega))
 (refine zw ?_;refine s_call (c_lawsmall [1,1] (by decide) (by decide)) ?_)
 repeat refine gN ?_
 (refine zw ?_;refine s_call (c_smallZ 10 (by decide) (by decide)) ?_)
 repeat refine gN ?_
 (refine zw ?_;refine s_call (c_smallZ 7 (by decide) (by decide)) ?_)
 repeat refine gN ?_
 (refine zw ?_;refine s_call (hM) ?_)
 repeat refine gN ?_
 ((first | refine aw_fz 26 ?_ ?_ | refine awp_fz 26 ?_ ?_);rotate_left;· (repeat' (first | exact True.intro | refine And.intro ?_ ?_)) <;> first | (show _ ≤ _;simp;done) | (show _ ≤ _;simp;omega) | (show _ ≤ _;omega))
 (refine zw ?_;refine s_call (hSh) ?_)
 repeat refine gN ?_
 (refine zw ?_;refine s_call (c_smallZ 55 (by decide) (by decide)) ?_)
 repeat refine gN ?_
 (refine zw ?_;refine s_call (hI1) ?_)
 repeat refine gN ?_
 try refine stp_gT (by exact rfl) (by exact rfl) ?_
 (refine zw ?_;refine s_call (c_smallZ 6 (by decide) (by decide)) ?_)
 repeat refine gN ?_
 try refine stp_gT (by exact rfl) (by exact rfl) ?_
 (refine zw ?_;refine s_call (hI2) ?_)
 repeat refine gN ?_
 try refine stp_gT (by exact rfl) (by exact rfl) ?_
 refine s_cmp (fun g=>?_) (fun g=>absurd rfl g)
 repeat refine gN ?_
 try refine stp_gT (by exact rfl) (by exact rfl) ?_
 repeat refine gN ?_
 (refine zw ?_;refine s_read ((c_samelongsP (.loc 46) [1,1] [1,1] (by decide) (by decide)).read ⟨_,List.mem_cons_of_mem _ List.mem_cons_self,rfl⟩) ?_ preX)
 rw [decide_eq_true (show [(1 : Int),1] = [1,1] from rfl)]
 repeat refine gN ?_
 (refine eF hS ?_ (fl':=[(0,bvl true)]);(repeat' (first | refine fJ ?_ ?_ | exact True.intro);all_goals (try (first | exact kvA | exact kOac | (refine kW (ov_of lks) rfl ?_ ?_)))))
end Go.Proofs

/-
  RecurModTerm: the law's walk.
-/
-- kv2
namespace Go.Proofs
open Go Go.Abs Go.Nums
attribute [local irreducible] thenA blockA awp aw Stp EndF EndP EndN EndG aOps aOpsM scopeA
set_option linter.unusedSimpArgs false
set_option linter.unusedVariables false
set_option maxHeartbeats 4000000

theorem rightZ (n : Int) (h : (digs B n.natAbs).length ≤ 4096) : rightB (decide (n < 0)) (digs B n.natAbs) = true:=by
 unfold rightB
 split
 ·rename_i q
  have hz : n.natAbs = 0:=(digs_nil hB).1 (List.eq_nil_of_length_eq_zero q)
  have : ¬ n < 0:=by omega
  simp [this]
 ·rename_i q
  have hne : digs B n.natAbs ≠ []:=fun e=>q (by rw [e];rfl)
  have:=digs_top hB hne
  rw [getLast_getD hne] at this
  exact decide_eq_true ⟨h,this⟩
theorem allR_lims {l : List Int} (h : lims 4096 l) : allR (l.map zp) = true:=List.all_eq_true.2 fun p hp=>by
 obtain ⟨n,hn,rfl⟩:=List.mem_map.1 hp
 exact rightZ n (h n hn)
theorem len_of_blen {n K : Nat} (h : blen n ≤ 64 * K) : (digs B n).length ≤ K:=(digs_len hB).2 (by rw [show B ^ K = 2 ^ (64 * K) by rw [Nat.pow_mul]];exact (blen_le _ _).1 h)

abbrev zNu (z : Int) : Nu:=⟨decide (z < 0),z.natAbs,0⟩
theorem zNu_val (z : Int) : (zNu z).val = z:=by
 show sg (decide (z < 0)) z.natAbs * 2 ^ 0 = z
 unfold sg
 split
 ·rename_i h
  have:=of_decide_eq_true h
  omega
 ·rename_i h
  have : ¬ z < 0:=fun g=>h (decide_eq_true g)
  omega
theorem zNu_ok {z : Int} {K : Nat} (h : blen z.natAbs ≤ K) : (zNu z).ok K:=⟨Int.le_refl _,by show (blen z.natAbs : Int) + 0 ≤ K;omega⟩
theorem cells_nmN {ty : TypeId} {a b : Value} {k : IntKind} {L : List Int} : (AObj.cells ty [.sc a,.ints k L,.sc b]).nm0:=fun x hx m hm=>by
 simp [AObj.cls] at hx
 rcases hx with rfl | rfl | rfl <;> exact hm

end Go.Proofs

/-
  From the machine's contracts to the rows of recur: what a call comes to where the package's table is laid; what the arguments are.
-/
namespace Go.Proofs
open Go Go.Abs Go.Nums
open Go.ChangeShapes Go.WideShapes Go.ChangeAt Go.RowKit

def ρ0 : Nm→Nat:=fun _=>0
def S0 : Store:=fun _=>none

theorem calls_top {P : Program} {f : FuncId} {fn : Func} {c : Code} {args : List AVal} {res : Value} (h : AFun P f args (.c (.sc res))) (hf : P.funcs[f]? = some fn) (hb : fn.body = some c) (hname : (fn.name == "runtime.NumGoroutine") = false)
  (w : World) (hg : Globs w ρ0 S0) (vs : Array Value) (hv : VSs w ρ0 S0 args vs.toList) : Calls P f vs w fun e w'=>e = .returned res∧Below w.heap.size w w':=by
 have hn' : ¬ fn.name = "runtime.NumGoroutine":=by simpa using hname
 have hrun : (callFunc f vs).run P w = .ok (.enter f vs) w:=by simp [callFunc,hf,hn',hb]
 rcases h.calls S0 .new S0 (fun _ _=>rfl) rfl (fun _=>rfl) w ρ0 vs.toList ⟨fun m m' o o' hm=>(by cases hm),fun m o hm=>(by cases hm)⟩ hg hv with ⟨h1,h2⟩ | ⟨v,h1,-⟩
 ·rw [Array.toArray_toList] at h2
  refine h2.mono fun e w'=>?_
  rintro ⟨ρ',v,rfl,-,hx,hr⟩
  exact ⟨by rw [show v = res from hr],hx.os,hx.tape,hx.output,hx.size,fun b hb=>hx.old b hb (fun m o hm=>by cases hm)⟩
 ·rw [Array.toArray_toList,hrun] at h1;cases h1

def tabLaid : List Int:=[0,1,56,2,57,49,28,3,61,58,42,50,38,29,17,4,62,47,59,36,45,43,51,22,53,39,33,30,24,18,12,5,63,55,48,27,60,41,37,16,46,35,44,21,52,32,23,11,54,26,40,15,34,20,31,10,25,14,19,9,13,8,7,6]
theorem globs_of {w : World} (h : ∀ i,i < 64→w.cell? ⟨0,i,none⟩ = some (.int .u8 (tabLaid.getD i 0))) : Globs w ρ0 S0:=by
 intro g cs hg
 match g,hg with
 | 0,hg =>
  have e : cs = tabLaid.map fun n=>Leaf.sc (.int .u8 n):=(Option.some.inj hg).symm
  subst e
  refine ⟨0,0,rfl,⟨?_,fun m o hm=>by cases hm⟩,fun j x hj=>?_⟩
  ·have:=h 0 (by decide)
   refine Nat.lt_of_not_le fun q=>?_
   rw [World.cell?] at this
   simp [Array.getElem?_eq_none q] at this
  ·rw [List.getElem?_map] at hj
   cases hy : tabLaid[j]? with
   | none=>rw [hy] at hj;cases hj
   | some y =>
    rw [hy] at hj
    cases hj
    have hl : j < 64:=(List.getElem?_eq_some_iff.1 hy).1
    refine ⟨_,?_,.sc (c:=.int .u8 y) rfl⟩
    have:=h j hl
    rw [List.getD_eq_getElem?_getD,hy] at this
    rw [Nat.zero_add]
    exact this
 | g + 1,hg=>cases hg

section
variable {H : Type} {enc : TypeId × Value→H} {P : Program} {w : World}

theorem vss_nil : VSs w ρ0 S0 [] []:=⟨rfl,fun i x h=>by simp at h⟩
theorem vss_cons {x : AVal} {v : Value} {xs : List AVal} {vs : List Value} (h : VS w ρ0 S0 x v) (t : VSs w ρ0 S0 xs vs) : VSs w ρ0 S0 (x :: xs) (v :: vs):=by
 refine ⟨by simp [t.1],fun i y hi=>?_⟩
 cases i with
 | zero=>simp only [List.getElem?_cons_zero,Option.some.injEq] at hi;subst hi;exact ⟨v,rfl,h⟩
 | succ i=>exact t.2 i y (by simpa using hi)
theorem vs_int {k : IntKind} {n : Int} : VS w ρ0 S0 (ivl k n) (.int k n):=rfl
end
end Go.Proofs

namespace Go.Proofs.YtdbjhcgogmfghaaGreatDoor
open Go Go.Abs Go.Nums Go.Proofs
open Go.ChangeShapes Go.WideShapes Go.ChangeAt Go.RowKit Go.Joins

set_option maxRecDepth 100000

theorem own : ownKnob Tryz.prog.godebug = none:=by kernel_rfl
theorem laidOut : laidOutB Tryz.prog = true:=by kernel_rfl
def laidT : List (String × DataW Unit):=[("math/bits.deBruijn64tab",Rows.laid_math_bits_deBruijn64tab)]
theorem gTab : Tryz.prog.globalNamed "math/bits.deBruijn64tab" = some 0:=by kernel_rfl

theorem gTabT : (Tryz.prog.globals[0]?).map (·.type) = some 210:=by kernel_rfl
theorem cellsTab : Tryz.prog.cellsOf 210 = 64:=by kernel_rfl
theorem cellsU8 : Tryz.prog.cellsOf 5 = 1:=by kernel_rfl
theorem of_laid {W : World} (h : laidMetH Tryz.prog laidT W) : Globs W ρ0 S0:=by
 rw [MakeChecks.laidMetH_plain _ _ _ (by kernel_rfl)] at h
 have hT : Lib.TabIs Tryz.prog W "math/bits.deBruijn64tab" .u8 tabLaid:=Lib.tabIs_of_head gTab gTabT Tryz.underlying210 Tryz.underlying5 cellsU8 cellsTab (rest:=[]) h
 exact globs_of fun i hi=>hT.cell gTab i hi
theorem door_met (os : Os) (args : Array Value) : laidMetH Tryz.prog laidT ((World.doorLaid Tryz.prog 14 os).forCall (fun _ _=>0) ⟨#[],args,[]⟩).memory :=
 laidMetH_of_parts3 (fuel:=8) (laidMet_of_run' 8 (by kernel_rfl) (by kernel_rfl)) (by kernel_rfl) (by kernel_rfl)
end Go.Proofs.YtdbjhcgogmfghaaGreatDoor

/-
  Arguments of recur's laws that are whole numbers.
-/
namespace Go.Proofs
open Go Go.Abs Go.Nums
open Go.ChangeShapes Go.WideShapes Go.ChangeAt Go.RowKit
section
variable {H : Type} {enc : TypeId × Value→H} {P : Program} {w : World}
theorem limbs_in {t e : TypeId} {n : Nat} {v : Value} {x : DataW H × List MemPlace} (ht : P.underlying t = some (.slice e)) (he : P.underlying e = some (.int .u64)) (hc : P.cellsOf e = 1)
  (h : DataW.trod enc P w 0 (fun _=>true) true n t [v] = some x) : ∃ l : List Nat,rng B l∧l.length < 2 ^ 63∧v.oneCell' = true∧IntsS w (Fr w ρ0 S0) .u64 (U l) (U l).length v:=by
 rcases open_ints ht he hc h with ⟨hcs,hx⟩ | ⟨a,len,cap,zs,hcs,_,hl,hm,hz,hx,hcell,hwz⟩
 ·simp only [List.cons.injEq,and_true] at hcs
  subst hcs
  exact ⟨[],rng_nil,by decide,rfl,none,0,rfl,Nat.le_refl _,Nat.le_refl _,fun q=>by simp [U] at q⟩
 ·simp only [List.cons.injEq,and_true] at hcs
  subst hcs
  simp only [if_true] at hz
  have hwz' : ∀ z ∈ zs,0 ≤ z∧z < 18446744073709551616:=fun z hz=>by
   have:=hwz z hz
   simp [Lit.wf,IntKind.min,IntKind.max,IntKind.signed,IntKind.bits] at this
   omega
  have hU : U ((zs.take len).map Int.toNat) = zs.take len:=by
   rw [U,List.map_map]
   conv=>rhs;rw [← List.map_id (zs.take len)]
   refine List.map_congr_left fun z hz=>?_
   have:=hwz' z (List.mem_of_mem_take hz)
   simp;omega
  have hml : maxLen = 9223372036854775807:=rfl
  have hlen : ((zs.take len).map Int.toNat).length = len:=by simp;omega
  refine ⟨(zs.take len).map Int.toNat,fun y hy=>?_,by rw [hlen];omega,rfl,some a,cap,?_,Nat.le_refl _,?_,fun q=>?_⟩
  ·obtain ⟨z,h1,rfl⟩:=List.mem_map.1 hy
   have:=hwz' z (List.mem_of_mem_take h1)
   show z.toNat < 18446744073709551616
   omega
  ·rw [U_len,hlen]
  ·rw [U_len,hlen];exact hl
  ·rw [U_len,hlen] at q
   obtain ⟨b,off,rfl,hc2⟩:=ints_at hcell (by omega)
   refine ⟨b,off,rfl,⟨?_,fun m o hm=>by cases hm⟩,fun i y hi=>?_⟩
   ·have:=hc2 0 (by omega)
    refine Nat.lt_of_not_le fun g=>?_
    rw [World.cell?] at this
    simp [Array.getElem?_eq_none g] at this
   ·rw [hU] at hi
    have hi' : i < len:=by
     have:=(List.getElem?_eq_some_iff.1 hi).1
     simp at this;omega
    rw [List.getElem?_take_of_lt hi'] at hi
    rw [hc2 i (by omega),List.getD_eq_getElem?_getD,hi];rfl

end
end Go.Proofs

namespace Go.Proofs.YtdbjhcgogmfghaaGreatDoor
open Go Go.Abs Go.Nums Go.Proofs
open Go.ChangeShapes Go.WideShapes Go.ChangeAt Go.RowKit Go.Joins

theorem cellsU64 : Tryz.prog.cellsOf 55 = 1:=by kernel_rfl

end Go.Proofs.YtdbjhcgogmfghaaGreatDoor

/-
  The kit: markInt, LentWholes, KeptWholes: lists of whole numbers with room behind them that is marked.
-/
-- kv2
namespace Go.Proofs
open Go Go.Abs Go.Nums
attribute [local irreducible] thenA blockA awp aw Stp EndF EndP EndN EndG EndT aOps aOpsM scopeA
set_option linter.unusedSimpArgs false
set_option linter.unusedVariables false
set_option maxHeartbeats 4000000

def markV (j : Nat) : Int:=((8000024 + j : Nat) : Int)
abbrev markL (j : Nat) : List Leaf:=[.sc (.bool false),.ints .u64 [markV j]]
abbrev lentL (p : Bool × List Nat) : List Leaf:=[.sc (.bool p.1),.intc .u64 (U (p.2 ++ mks 12)) p.2.length]
def lentR (xs : List (Bool × List Nat)) (j : Nat) : List (List Leaf):=xs.map lentL ++ (List.range j).map markL
theorem lentR_len (xs : List (Bool × List Nat)) (j : Nat) : (lentR xs j).length = xs.length + j:=by simp [lentR]
theorem lentR_two (xs : List (Bool × List Nat)) (j : Nat) : ∀ c ∈ lentR xs j,c.length = 2:=fun c hc=>by
 rcases List.mem_append.1 hc with h | h
 ·obtain ⟨p,-,rfl⟩:=List.mem_map.1 h;rfl
 ·obtain ⟨p,-,rfl⟩:=List.mem_map.1 h;rfl
abbrev cellR (L : List (List Leaf)) : List Cell:=(L.map (·.map Leaf.cell)).flatten
theorem cellR_len {L : List (List Leaf)} (h : ∀ c ∈ L,c.length = 2) : (cellR L).length = L.length * 2:=by
 rw [flat_len (sz:=2) (fun c hc=>by obtain ⟨q,hq,rfl⟩:=List.mem_map.1 hc;rw [List.length_map];exact h q hq),List.length_map]
theorem cellR_snoc (L : List (List Leaf)) (c : List Leaf) : cellR (L ++ [c]) = cellR L ++ c.map Leaf.cell:=by simp [cellR]

theorem c_mark (j : Nat) (h : j < 2 ^ 60) : AFun Tryz.prog 40 [iv 1,iv j] (.agg [.sc (.bool false),.ints .u64 [markV j]]):=by
 refine aF (mu:=muF) Tryz.func40 fun S hS=>?_
 repeat refine gN ?_
 (refine zw ?_;refine s_call (c_mark1 j h) ?_)
 repeat refine gN ?_
 (refine eF hS ?_ (fl':=[(4,.c (.pim [.sc (.bool false),.ints .u64 [markV j]]))]);(repeat' (first | refine fJ ?_ ?_ | exact True.intro);all_goals (try (first | exact kvA | exact kOac | (refine kW (ov_of lks) rfl ?_ ?_)))))

theorem kRowc {A C : Store} {m : Nm} {len cm : Nat} {ty : TypeId} {L : List (List Leaf)} (hm : A m = some (.cells ty (cellR L))) (hb : C m = none) (hn : len ≤ L.length) (hc : L.length ≤ cm) (hz : ∀ c ∈ L,c.length = 2) : FrzV A C (.c (.win m 0 len cm)) (.c (.seqc 2 L len)):=by
 refine .c (.base (.rowc (fun i j=>(((L.getD i []).getD j (.sc undef)).cell)) (.inl hm) hb hn hc hz (fun i c j l hi hj=>?_) (fun i c j l hi hj=>?_)))
 ·have hD : (L.getD i []).getD j (.sc undef) = l:=by
   rw [List.getD_eq_getElem?_getD (l:=L),hi]
   show c.getD j _ = l
   rw [List.getD_eq_getElem?_getD,hj];rfl
  rw [hD,Nat.zero_add]
  exact flat_get (sz:=2) (fun c hc=>by obtain ⟨q,hq,rfl⟩:=List.mem_map.1 hc;rw [List.length_map];exact hz q hq) (c:=c.map Leaf.cell) (by rw [List.getElem?_map,hi];rfl) (by rw [List.getElem?_map,hj];rfl)
 ·have hD : (L.getD i []).getD j (.sc undef) = l:=by
   rw [List.getD_eq_getElem?_getD (l:=L),hi]
   show c.getD j _ = l
   rw [List.getD_eq_getElem?_getD,hj];rfl
  rw [hD]
  exact .keep fun q hq=>absurd hq (Leaf.cell_nm _ _)

abbrev lentQ (xs : List (Bool × List Nat)) : AVal:=.c (.seqc 2 (lentR xs 12) xs.length)
theorem lentR_snoc (xs : List (Bool × List Nat)) (j : Nat) : lentR xs (j + 1) = lentR xs j ++ [markL j]:=by simp [lentR,List.range_succ]
theorem lentR_take {xs : List (Bool × List Nat)} {i : Nat} {p : Bool × List Nat} (h : xs[i]? = some p) : lentR (xs.take (i + 1)) 0 = lentR (xs.take i) 0 ++ [lentL p]:=by
 rw [lentR,lentR,List.take_add_one,h]
 simp

abbrev zCells : List Cell:=[.sc (.bool false),.sc (.slice none 0 0)]
theorem lent_nm0 {ty : TypeId} {L : List (List Leaf)} {k : Nat} : (AObj.cells ty (cellR L ++ Go.Abs.rep k zCells)).nm0:=fun x hx m hm=>by
 rcases List.mem_append.1 (show x ∈ cellR L ++ Go.Abs.rep k zCells from hx) with h | h
 ·obtain ⟨c,hc,hxc⟩:=List.mem_flatten.1 h
  obtain ⟨q,-,rfl⟩:=List.mem_map.1 hc
  obtain ⟨y,-,rfl⟩:=List.mem_map.1 hxc
  exact absurd hm (Leaf.cell_nm _ _)
 ·obtain ⟨c,hc,hxc⟩:=List.mem_flatten.1 h
  rw [(List.mem_replicate.1 hc).2] at hxc
  simp only [List.mem_cons,List.not_mem_nil,or_false] at hxc
  rcases hxc with rfl | rfl <;> exact hm
theorem rep_len2 (k : Nat) : (Go.Abs.rep k zCells).length = k * 2:=Go.Abs.rep_length k zCells

theorem c_lentwholes (xs : List (Bool × List Nat)) (hx : xs.length ≤ 4398046510976) (hl : ∀ p ∈ xs,p.2.length ≤ 17592186043904) : AFun Tryz.prog 10 [isq xs] (lentQ xs):=by
 have hU : (xs.map rowI).length = xs.length:=List.length_map _
 obtain ⟨z,hz⟩ : ∃ z : List Cell,z = [.sc (.bool false),.sc (.slice none 0 0)]:=⟨_,rfl⟩
 refine aF (mu:=muF) Tryz.func10 fun S hS=>?_
 repeat refine gN ?_
 rw [hU]
 refine zw1 (s_makeR (b:=xs.length + 12) (nb:=32) ttOk ⟨by omega,by omega⟩ ?_)
 repeat refine gN ?_
 refine awp_midB (fun st=>Weak st ⟨lk' [(0,isq xs),(3,.c (.win (.loc 10) 0 xs.length (xs.length + 12)))],ov [(.loc 10,.cells 28 (cellR (lentR xs 0) ++ Go.Abs.rep 12 zCells))] (pushS S)⟩) ?_ ?_
 ·refine awp_rep (fun i : Nat=>⟨lk' [(0,isq xs),(3,.c (.win (.loc 10) 0 i (xs.length + 12))),(4,iv i)],ov [(.loc 10,.cells 28 (cellR (lentR (xs.take i) 0) ++ Go.Abs.rep (xs.length + 12 - i) zCells))] (pushS S)⟩) (fun i=>i ≤ xs.length) (fun i=>xs.length + 1 - i) 0 (Nat.zero_le _) ?_ ?_
  ·rw [List.take_zero,show cellR (lentR [] 0) = [] from rfl,List.nil_append,Nat.sub_zero]
   (refine fz hS ?_ ?_;all_goals (repeat' (first | refine fJ ?_ ?_ | exact True.intro));all_goals (try (first | exact kvA | exact kOac | (refine kW (ov_of lks) rfl ?_ ?_))))
   have h:=lent_nm0 (ty:=28) (L:=[]) (k:=xs.length + 12)
   rw [show cellR ([] : List (List Leaf)) = [] from rfl,List.nil_append] at h
   exact .of_nm0 h
  intro i hi
  have hLl : (lentR (xs.take i) 0).length = i:=by rw [lentR_len,List.length_take];omega
  have hC : (cellR (lentR (xs.take i) 0)).length = i * 2:=by rw [cellR_len (lentR_two _ _),hLl]
  repeat refine gN ?_
  rw [hU]
  (refine zw ?_;refine s_cmp (fun g=>?_) (fun g=>?_))
  ·obtain ⟨p,hp⟩ : ∃ p,xs[i]? = some p:=⟨_,List.getElem?_eq_getElem (by omega)⟩
   repeat refine gN ?_
   rw [show (i : Int).toNat = i by omega,rowI_get hp]
   repeat refine gN ?_
   (refine zw ?_;refine s_call (c_lentint p.1 p.2 (hl p (List.mem_of_getElem? hp))) ?_)
   repeat refine gN ?_
   (refine zw ?_;refine s_bld (out:=(lentL p).map Leaf.cell) ttOk ?_)
   refine zw1 (s_appRC (sz:=1) (Y:=[(lentL p).map Leaf.cell]) ttOk ?_ ?_ ?_)
   ·exact srcR_one lks rfl
   ·rw [List.length_append,hC,rep_len2]
    simp
    omega
   have hspl : spl (cellR (lentR (xs.take i) 0) ++ Go.Abs.rep (xs.length + 12 - i) zCells) (i * (1 + 1)) [(lentL p).map Leaf.cell].flatten = cellR (lentR (xs.take (i + 1)) 0) ++ Go.Abs.rep (xs.length + 12 - (i + 1)) zCells:=by
    rw [lentR_take hp,cellR_snoc,show [(lentL p).map Leaf.cell].flatten = (lentL p).map Leaf.cell from List.append_nil _]
    exact spl_row (k:=xs.length + 12 - (i + 1)) (by omega) rfl (by rw [hC])
   rw [hspl]
   repeat refine gN ?_
   refine ⟨i + 1,?_,by omega,by omega⟩
   (refine fz hS ?_ ?_;all_goals (repeat' (first | refine fJ ?_ ?_ | exact True.intro));all_goals (try (first | exact kvA | exact kOac | (refine kW (ov_of lks) rfl ?_ ?_))))
   exact .of_nm0 lent_nm0
  ·repeat refine gN ?_
   have : i = xs.length:=by omega
   subst this
   rw [List.take_length,show xs.length + 12 - xs.length = 12 by omega]
   (refine fz hS ?_ ?_;all_goals (repeat' (first | refine fJ ?_ ?_ | exact True.intro));all_goals (try (first | exact kvA | exact kOac | (refine kW (ov_of lks) rfl ?_ ?_))))
   exact .of_nm0 lent_nm0
 intro st hst
 refine awp_weak _ hst ?_
 clear hst st
 repeat refine gN ?_
 refine awp_rep (fun j : Nat=>⟨lk' [(0,isq xs),(3,.c (.win (.loc 10) 0 (xs.length + j) (xs.length + 12))),(6,iv j)],ov [(.loc 10,.cells 28 (cellR (lentR xs j) ++ Go.Abs.rep (12 - j) zCells))] (pushS S)⟩) (fun j=>j ≤ 12) (fun j=>13 - j) 0 (Nat.zero_le _) ?_ ?_
 ·(refine fz hS ?_ ?_;all_goals (repeat' (first | refine fJ ?_ ?_ | exact True.intro));all_goals (try (first | exact kvA | exact kOac | (refine kW (ov_of lks) rfl ?_ ?_))))
  exact .of_nm0 lent_nm0
 intro j hj
 have hC : (cellR (lentR xs j)).length = (xs.length + j) * 2:=by rw [cellR_len (lentR_two _ _),lentR_len]
 repeat refine gN ?_
 (refine zw ?_;refine s_cmp (fun g=>?_) (fun g=>?_))
 ·repeat refine gN ?_
  (refine zw ?_;refine s_call (c_mark j (by omega)) ?_)
  repeat refine gN ?_
  (refine zw ?_;refine s_bld (out:=(markL j).map Leaf.cell) ttOk ?_)
  refine zw1 (s_appRC (sz:=1) (Y:=[(markL j).map Leaf.cell]) ttOk ?_ ?_ ?_)
  ·exact srcR_one lks rfl
  ·rw [List.length_append,hC,rep_len2]
   simp
   omega
  have hspl : spl (cellR (lentR xs j) ++ Go.Abs.rep (12 - j) zCells) ((xs.length + j) * (1 + 1)) [(markL j).map Leaf.cell].flatten = cellR (lentR xs (j + 1)) ++ Go.Abs.rep (12 - (j + 1)) zCells:=by
   rw [lentR_snoc,cellR_snoc,show [(markL j).map Leaf.cell].flatten = (markL j).map Leaf.cell from List.append_nil _]
   exact spl_row (k:=12 - (j + 1)) (by omega) rfl (by rw [hC])
  rw [hspl]
  repeat refine gN ?_
  refine ⟨j + 1,?_,by omega,by omega⟩
  (refine fz hS ?_ ?_;all_goals (repeat' (first | refine fJ ?_ ?_ | exact True.intro));all_goals (try (first | exact kvA | exact kOac | (refine kW (ov_of lks) rfl ?_ ?_))))
  exact .of_nm0 lent_nm0
 ·have : j = 12:=by omega
  subst this
  rw [Nat.sub_self,show Go.Abs.rep 0 zCells = [] from rfl,List.append_nil]
  repeat refine gN ?_
  rw [hU,show ((xs.length : Nat) : Int).toNat = xs.length by omega]
  (refine eF hS ?_ (fl':=[(2,lentQ xs)]);(repeat' (first | refine fJ ?_ ?_ | exact True.intro);all_goals (try (first | exact kvA | exact kOac | (refine kW (ov_of lks) rfl ?_ ?_)))))
  exact kRowc (ov_of lks) rfl (by rw [lentR_len];omega) (by rw [lentR_len];exact Nat.le_refl _) (lentR_two _ _)

theorem lentR_get1 {xs : List (Bool × List Nat)} {j i : Nat} {p : Bool × List Nat} (h : xs[i]? = some p) : (lentR xs j).getD i [] = lentL p:=by
 have hi:=(List.getElem?_eq_some_iff.1 h).1
 rw [lentR,List.getD_eq_getElem?_getD,List.getElem?_append_left (by rw [List.length_map];exact hi),List.getElem?_map,h];rfl
theorem lentR_get2 {xs : List (Bool × List Nat)} {j i : Nat} (h : xs.length ≤ i) (h2 : i < xs.length + j) : (lentR xs j).getD i [] = markL (i - xs.length):=by
 rw [lentR,List.getD_eq_getElem?_getD,List.getElem?_append_right (by rw [List.length_map];exact h),List.length_map,List.getElem?_map,List.getElem?_range (by omega)];rfl

theorem c_keptwholes (xs : List (Bool × List Nat)) (hx : xs.length < 2 ^ 60) (hl : ∀ p ∈ xs,p.2.length < 2 ^ 60) : AFun Tryz.prog 14 [lentQ xs,isq xs] (bvl true):=by
 have hU : (xs.map rowI).length = xs.length:=List.length_map _
 have hR:=lentR_len xs 12
 refine aF (mu:=muF) Tryz.func14 fun S hS=>?_
 repeat refine gN ?_
 rw [hU]
 (refine zw ?_;refine s_cmp (fun g=>?_) (fun g=>?_))
 ·exact absurd rfl g
 repeat refine gN ?_
 rw [hU,List.drop_zero,show ((xs.length + 12 : Nat) : Int).toNat - 0 = xs.length + 12 by omega]
 refine awp_rep (fun i : Nat=>⟨lk' [(1,isq xs),(5,.c (.seqc 2 (lentR xs 12) (xs.length + 12))),(6,iv i)],ov [] (pushS S)⟩) (fun i=>i ≤ xs.length + 12) (fun i=>xs.length + 13 - i) 0 (Nat.zero_le _) ?_ ?_
 ·(refine fz hS ?_ ?_;all_goals (repeat' (first | refine fJ ?_ ?_ | exact True.intro));all_goals (try (first | exact kvA | exact kOac | (refine kW (ov_of lks) rfl ?_ ?_))))
 intro i hi
 repeat refine gN ?_
 (refine zw ?_;refine s_cmp (fun g1=>?_) (fun g1=>?_))
 rotate_left
 ·repeat refine gN ?_
  (refine eF hS ?_ (fl':=[(4,bvl true)]);(repeat' (first | refine fJ ?_ ?_ | exact True.intro);all_goals (try (first | exact kvA | exact kOac | (refine kW (ov_of lks) rfl ?_ ?_)))))
 repeat refine gN ?_
 rw [hU]
 (refine zw ?_;refine s_cmp (fun g2=>?_) (fun g2=>?_))
 ·obtain ⟨p,hp⟩ : ∃ p,xs[i]? = some p:=⟨_,List.getElem?_eq_getElem (by omega)⟩
  repeat refine gN ?_
  rw [show (i : Int).toNat = i by omega,lentR_get1 hp]
  repeat refine gN ?_
  rw [show (i : Int).toNat = i by omega,rowI_get hp]
  repeat refine gN ?_
  try refine stp_gT (by exact rfl) (by exact rfl) ?_
  (refine zw ?_;refine s_call (c_keptint p.1 p.2 (hl p (List.mem_of_getElem? hp))) ?_)
  repeat refine gN ?_
  rw [hU]
  refine s_cmp (fun g3=>?_) (fun g3=>?_)
  ·exact absurd g3 (by omega)
  repeat refine gN ?_
  refine ⟨i + 1,?_,by omega,by omega⟩
  (refine fz hS ?_ ?_;all_goals (repeat' (first | refine fJ ?_ ?_ | exact True.intro));all_goals (try (first | exact kvA | exact kOac | (refine kW (ov_of lks) rfl ?_ ?_))))
 ·have hM : AFun Tryz.prog 26 [.agg [.sc (.bool false),.ints .u64 [markV (i - xs.length)]],.agg [.sc (.bool false),.ints .u64 [markV (i - xs.length)]]] (bvl true):=by
   have:=c_sameint false false [8000024 + (i - xs.length)] [8000024 + (i - xs.length)] (show (1 : Nat) < 2 ^ 60 by decide) (show (1 : Nat) < 2 ^ 60 by decide)
   rw [decide_eq_true (show _∧_ from ⟨rfl,rfl⟩)] at this
   exact this
  repeat refine gN ?_
  rw [hU]
  refine s_cmp (fun g3=>?_) (fun g3=>?_)
  rotate_left
  ·exact absurd g3 (by omega)
  repeat refine gN ?_
  rw [show (i : Int).toNat = i by omega,lentR_get2 (j:=12) (by omega) (by omega)]
  repeat refine gN ?_
  rw [hU,show ((i : Int) - (xs.length : Int)) = ((i - xs.length : Nat) : Int) by omega]
  try refine stp_gT (by exact rfl) (by exact rfl) ?_
  (refine zw ?_;refine s_call (c_mark (i - xs.length) (by omega)) ?_)
  repeat refine gN ?_
  try refine stp_gT (by exact rfl) (by exact rfl) ?_
  (refine zw ?_;refine s_call (hM) ?_)
  repeat refine gN ?_
  refine ⟨i + 1,?_,by omega,by omega⟩
  (refine fz hS ?_ ?_;all_goals (repeat' (first | refine fJ ?_ ?_ | exact True.intro));all_goals (try (first | exact kvA | exact kOac | (refine kW (ov_of lks) rfl ?_ ?_))))
end Go.Proofs

/-
  The laws of recur: limbs; the reference: right, Told.
-/
-- kv2
namespace Go.Proofs
open Go Go.Abs Go.Nums
attribute [local irreducible] thenA blockA awp aw Stp EndF EndP EndN EndG EndT aOps aOpsM scopeA
set_option linter.unusedSimpArgs false
set_option linter.unusedVariables false
set_option maxHeartbeats 4000000

def limbF : List (Bool × List Nat)→Nat→Nat
 | [],n=>n
 | p :: xs,n=>if n ≤ 400 then limbF xs (n + 1 + p.2.length) else n
theorem c_limbs25 (xs : List (Bool × List Nat)) (hx : xs.length < 2 ^ 60) (hl : ∀ p ∈ xs,p.2.length < 2 ^ 60) : AFun Tryz.prog 8 [isq xs] (iv (limbF xs 0)):=by
 have hU : (xs.map rowI).length = xs.length:=List.length_map _
 refine aF (mu:=muF) Tryz.func8 fun S hS=>?_
 repeat refine gN ?_
 refine awp_rep2 (fun (i : Nat) (n : Nat)=>⟨lk' [(0,isq xs),(3,iv n),(4,iv i)],ov [] (pushS S)⟩) (fun i n=>i ≤ xs.length∧n < 2 ^ 61∧limbF (xs.drop i) n = limbF xs 0) (fun i _=>xs.length + 1 - i) 0 0 ⟨Nat.zero_le _,by decide,rfl⟩ ?_ ?_
 ·(refine fz hS ?_ ?_;all_goals (repeat' (first | refine fJ ?_ ?_ | exact True.intro));all_goals (try (first | exact kvA | exact kOac | (refine kW (ov_of lks) rfl ?_ ?_))))
 rintro i n ⟨hi,hn,hF⟩
 repeat refine gN ?_
 rw [hU]
 (refine zw ?_;refine s_cmp (fun g=>?_) (fun g=>?_))
 ·obtain ⟨p,hp⟩ : ∃ p,xs[i]? = some p:=⟨_,List.getElem?_eq_getElem (by omega)⟩
  have hd : xs.drop i = p :: xs.drop (i + 1):=List.drop_eq_getElem?_toList_append.trans (by rw [hp];rfl)
  have hpl:=hl p (List.mem_of_getElem? hp)
  have hpu:=U_len p.2
  repeat refine gN ?_
  refine s_cmp (fun g2=>?_) (fun g2=>?_)
  ·repeat refine gN ?_
   rw [show (i : Int).toNat = i by omega,rowI_get hp]
   repeat refine gN ?_
   rw [hd,limbF,if_pos (by omega)] at hF
   refine ⟨i + 1,n + 1 + p.2.length,?_,⟨by omega,by omega,hF⟩,by omega⟩
   (refine fz hS ?_ ?_;all_goals (repeat' (first | refine fJ ?_ ?_ | exact True.intro));all_goals (try (first | exact kvA | exact kOac | (refine kW (ov_of lks) rfl ?_ ?_))))
  ·rw [hd,limbF,if_neg (by omega)] at hF
   repeat refine gN ?_
   rw [hF]
   (refine eF hS ?_ (fl':=[(2,iv (limbF xs 0))]);(repeat' (first | refine fJ ?_ ?_ | exact True.intro);all_goals (try (first | exact kvA | exact kOac | (refine kW (ov_of lks) rfl ?_ ?_)))))
 ·have : i = xs.length:=by omega
  subst this
  rw [List.drop_length] at hF
  have hF : n = limbF xs 0:=hF
  repeat refine gN ?_
  rw [← hF]
  (refine eF hS ?_ (fl':=[(2,iv n)]);(repeat' (first | refine fJ ?_ ?_ | exact True.intro);all_goals (try (first | exact kvA | exact kOac | (refine kW (ov_of lks) rfl ?_ ?_)))))

theorem c_rightint (s : Bool) (l : List Nat) (hl : l.length < 2 ^ 63) : AFun Tryz.prog 97 [wi s l] (bvl (rightB s l)):=by
 refine aF (mu:=muF) Tryz.func97 fun S hS=>?_
 repeat refine gN ?_
 (refine zw ?_;refine s_cmp (fun h1=>?_) (fun h1=>?_))
 ·repeat refine gN ?_
  (refine eF hS ?_ (fl':=[(2,bvl (rightB s l))]);(repeat' (first | refine fJ ?_ ?_ | exact True.intro);all_goals (try (first | exact kvA | exact kOac | (refine kW (ov_of lks) rfl ?_ ?_)))))
  exact kB (by unfold rightB;rw [if_pos (by omega)])
 repeat refine gN ?_
 (refine zw ?_;refine s_cmp (fun h2=>?_) (fun h2=>?_))
 ·repeat refine gN ?_
  have e : ((l.length : Int) - 1).toNat = l.length - 1:=by omega
  rw [e]
  (refine zw ?_;refine s_cmp (fun h3=>?_) (fun h3=>?_))
  ·repeat refine gN ?_
   (refine eF hS ?_ (fl':=[(2,bvl (rightB s l))]);(repeat' (first | refine fJ ?_ ?_ | exact True.intro);all_goals (try (first | exact kvA | exact kOac | (refine kW (ov_of lks) rfl ?_ ?_)))))
   exact kB (by unfold rightB;rw [if_neg (by omega),decide_eq_true];exact ⟨by omega,by omega⟩)
  ·repeat refine gN ?_
   (refine eF hS ?_ (fl':=[(2,bvl (rightB s l))]);(repeat' (first | refine fJ ?_ ?_ | exact True.intro);all_goals (try (first | exact kvA | exact kOac | (refine kW (ov_of lks) rfl ?_ ?_)))))
   exact kB (by unfold rightB;rw [if_neg (by omega),decide_eq_false];intro h;omega)
 ·repeat refine gN ?_
  (refine eF hS ?_ (fl':=[(2,bvl (rightB s l))]);(repeat' (first | refine fJ ?_ ?_ | exact True.intro);all_goals (try (first | exact kvA | exact kOac | (refine kW (ov_of lks) rfl ?_ ?_)))))
  exact kB (by unfold rightB;rw [if_neg (by omega),decide_eq_false];intro h;omega)

theorem c_refright (xs : List (Bool × List Nat)) (hx : xs.length < 2 ^ 60) (hl : ∀ p ∈ xs,p.2.length < 2 ^ 60) : AFun Tryz.prog 47 [isq xs] (bvl (allR xs)):=by
 have hU : (xs.map rowI).length = xs.length:=List.length_map _
 obtain ⟨R,hR⟩ : ∃ R,R = allR xs:=⟨_,rfl⟩
 rw [← hR]
 refine aF (mu:=muF) Tryz.func47 fun S hS=>?_
 repeat refine gN ?_
 refine awp_rep (fun i : Nat=>⟨lk' [(0,isq xs),(3,iv i)],ov [] (pushS S)⟩) (fun i=>i ≤ xs.length∧allR (xs.take i) = true) (fun i=>xs.length + 1 - i) 0 ⟨Nat.zero_le _,rfl⟩ ?_ ?_
 ·(refine fz hS ?_ ?_;all_goals (repeat' (first | refine fJ ?_ ?_ | exact True.intro));all_goals (try (first | exact kvA | exact kOac | (refine kW (ov_of lks) rfl ?_ ?_))))
 rintro i ⟨hi,hA⟩
 repeat refine gN ?_
 rw [hU]
 (refine zw ?_;refine s_cmp (fun g=>?_) (fun g=>?_))
 ·obtain ⟨p,hp⟩ : ∃ p,xs[i]? = some p:=⟨_,List.getElem?_eq_getElem (by omega)⟩
  have hpl:=hl p (List.mem_of_getElem? hp)
  repeat refine gN ?_
  rw [show (i : Int).toNat = i by omega,rowI_get hp]
  repeat refine gN ?_
  (refine zw ?_;refine s_call (c_rightint p.1 p.2 (by omega)) ?_)
  repeat refine gN ?_
  cases hb : rightB p.1 p.2 with
  | false =>
   have e : R = false:=by
    rw [hR]
    refine Bool.eq_false_iff.2 fun h=>?_
    have:=List.all_eq_true.1 h p (List.mem_of_getElem? hp)
    rw [hb] at this
    cases this
   rw [e]
   repeat refine gN ?_
   (refine eF hS ?_ (fl':=[(2,bvl false)]);(repeat' (first | refine fJ ?_ ?_ | exact True.intro);all_goals (try (first | exact kvA | exact kOac | (refine kW (ov_of lks) rfl ?_ ?_)))))
  | true =>
   repeat refine gN ?_
   refine ⟨i + 1,?_,⟨by omega,?_⟩,by omega⟩
   ·(refine fz hS ?_ ?_;all_goals (repeat' (first | refine fJ ?_ ?_ | exact True.intro));all_goals (try (first | exact kvA | exact kOac | (refine kW (ov_of lks) rfl ?_ ?_))))
   ·rw [List.take_add_one,hp]
    show (xs.take i ++ [p]).all _ = true
    rw [List.all_append,show (xs.take i).all _ = true from hA]
    simp [hb]
 ·have : i = xs.length:=by omega
  subst this
  rw [List.take_length] at hA
  rw [hR,hA]
  repeat refine gN ?_
  (refine eF hS ?_ (fl':=[(2,bvl true)]);(repeat' (first | refine fJ ?_ ?_ | exact True.intro);all_goals (try (first | exact kvA | exact kOac | (refine kW (ov_of lks) rfl ?_ ?_)))))
end Go.Proofs
