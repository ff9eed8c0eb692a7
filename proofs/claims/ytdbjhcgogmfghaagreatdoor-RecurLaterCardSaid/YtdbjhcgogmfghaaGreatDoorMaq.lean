/-
  An abstract machine for this program, and contracts of its functions: part Maq (no statement by itself).
-/
import Derived.Test.YtdbjhcgogmfghaaGreatDoorMan
import Derived.Test.YtdbjhcgogmfghaaGreatDoorMag
import Derived.Test.YtdbjhcgogmfghaaGreatDoorMam
import Derived.Test.YtdbjhcgogmfghaaGreatDoorMaf
import Derived.Test.YtdbjhcgogmfghaaGreatDoorMao
import Derived.Test.YtdbjhcgogmfghaaGreatDoorMap
set_option linter.unusedVariables false
set_option linter.unusedSimpArgs false
set_option linter.unnecessarySimpa false

/-
  recur: Shortest's inner loops.
-/
-- kv2
-- kv4
namespace Go.Proofs
open Go Go.Abs Go.Nums
attribute [local irreducible] thenA blockA awp aw Stp EndF EndP EndN EndG aOps aOpsM scopeA
set_option linter.unusedSimpArgs false
set_option linter.unusedVariables false
set_option maxHeartbeats 4000000

noncomputable def cL : Code→Code
  | .seq a _=>a
  | .cond _ a _=>a
  | .block _ c=>c
  | .loop c=>c
  | c=>c
noncomputable def cR : Code→Code
  | .seq _ b=>b
  | .cond _ _ b=>b
  | c=>c
abbrev tL : TypeId:=2
theorem bm_bound {p : Int} {a : Nat→Int} {n : Nat} {s : BM} (h : BMI p a n s) : s.size ≤ n∧s.since ≤ n + 1∧s.now.length ≤ n + 1∧s.tn.length + s.since ≤ n + 2∧0 < s.now.length:=by
  have h1:=h.s1
  have h2:=h.g.2.1
  have h3:=h.g.1
  have h4 : 0 < s.now.length:=by
    refine Nat.pos_of_ne_zero fun e=>?_
    rw [List.eq_nil_of_length_eq_zero e] at h3
    simp at h3
  rcases h.old with ⟨q1,q2,q3⟩ | ⟨sb,nb,q1,q2,q3,-⟩ <;> omega

theorem mul_p {p : Int} (hp2 : p < 2147483648) (a b : Int) (ha : 0 ≤ a∧a < p) (hb : 0 ≤ b∧b < p) : 0 ≤ a * b∧a * b < 4611686018427387904:=by
  have h1:=Int.mul_nonneg ha.1 hb.1
  have h2:=Int.mul_le_mul (show a ≤ 2147483647 by omega) (show b ≤ 2147483647 by omega) hb.1 (by decide)
  omega

noncomputable def bmL3 : Code:=(cL (cR (cL (cR (cR (cR (cR (cR (cR (cR (cR (Tryz.f35.body.getD .skip))))))))))))
noncomputable def bmL5 : Code:=(cL (cR (cL (cR (cR (cL (cL (cR (cR (cL (cL (cR (cL (cR (cR (cR (cR (cR (cR (cR (cR (Tryz.f35.body.getD .skip))))))))))))))))))))))
noncomputable def bmL7 : Code:=(cL (cL (cR (cR (cR (cR (cR (cR (cL (cL (cR (cR (cL (cL (cR (cL (cR (cR (cR (cR (cR (cR (cR (cR (Tryz.f35.body.getD .skip)))))))))))))))))))))))))
noncomputable def bmL9 : Code:=(cL (cR (cL (cR (cR (cR (cR (cR (cR (cR (cL (cL (cR (cR (cL (cL (cR (cL (cR (cR (cR (cR (cR (cR (cR (cR (Tryz.f35.body.getD .skip)))))))))))))))))))))))))))
theorem bm_l5 {S : Store} (hS : ∀ n b,S n = some b→b.cl S) {Q : Exit→St→Prop} {p : Int} (hp0 : 0 < p) (hp2 : p < 2147483648) {row : List Int} (hrl : row.length ≤ 4096) (hrr : inR p row) {n : Nat} (hn : n < row.length) {s : BM} (b1 : s.size ≤ n) (b2 : s.since ≤ n + 1) (b3 : s.now.length ≤ n + 1) (b4 : s.tn.length + s.since ≤ n + 2) (b5 : 0 < s.now.length) (hsn : inR p s.now) (hst : inR p s.tn) (hw : 0 < s.was∧s.was < p) (off : Int) (hoff : off = offS s.now row p n s.now.length) :
    awp Tryz.prog muF Tryz.f35.ntmps bmL5 (blockA 5 (thenA (fun st=>Weak st ⟨lk' [(16,iv n),(17,ivl .i64 off),(3,pi64 p),(6,.fn 76 [.pim [.sc (.int .i64 p)]]),(7,.fn 77 [.pim [.sc (.int .i64 p)]]),(8,li row),(11,.c (.win (.loc 53) 0 s.now.length s.now.length)),(12,li s.tn),(13,iv s.size),(14,iv s.since),(15,ivl .i64 s.was),(56,iv row.length),(57,iv n)],ov [(.loc 53,.ints tL .i64 s.now)] (pushS S)⟩) Q))
      ⟨lk' [(16,iv n),(17,ivl .i64 0),(60,.c (.win (.loc 53) 0 s.now.length s.now.length)),(61,iv s.now.length),(62,iv 0),(3,pi64 p),(6,.fn 76 [.pim [.sc (.int .i64 p)]]),(7,.fn 77 [.pim [.sc (.int .i64 p)]]),(8,li row),(11,.c (.win (.loc 53) 0 s.now.length s.now.length)),(12,li s.tn),(13,iv s.size),(14,iv s.since),(15,ivl .i64 s.was),(56,iv row.length),(57,iv n)],ov [(.loc 53,.ints tL .i64 s.now)] (pushS S)⟩:=by
  have hmul:=mul_p hp2
  refine awp_rep (fun i : Nat=>⟨lk' [(16,iv n),(17,ivl .i64 (offS s.now row p n i)),(60,.c (.win (.loc 53) 0 s.now.length s.now.length)),(61,iv s.now.length),(62,iv i),(3,pi64 p),(6,.fn 76 [.pim [.sc (.int .i64 p)]]),(7,.fn 77 [.pim [.sc (.int .i64 p)]]),(8,li row),(11,.c (.win (.loc 53) 0 s.now.length s.now.length)),(12,li s.tn),(13,iv s.size),(14,iv s.since),(15,ivl .i64 s.was),(56,iv row.length),(57,iv n)],ov [(.loc 53,.ints tL .i64 s.now)] (pushS S)⟩)
    (fun i=>i ≤ s.now.length) (fun i=>s.now.length + 1 - i) 0 (Nat.zero_le _) (Weak.refl _) ?_
  intro i hi
  have ho:=offS_rng (c:=s.now) (row:=row) hp0 (n:=n) i
  repeat refine gN ?_
  (refine zw ?_;refine s_cmp (fun g3=>?_) (fun g3=>?_))
  · have hci:=inR_get hp0 hsn i
    repeat refine gN ?_
    (refine zw ?_;refine s_cmp (fun g4=>?_) (fun g4=>?_))
    · have hri:=inR_get hp0 hrr (n - i)
      have hm:=hmul _ _ hci hri
      repeat refine gN ?_
      rw [show ((n : Int) - i).toNat = n - i by omega]
      repeat refine gN ?_
      (refine zw ?_;refine s_callG (c_mod1 p (offS s.now row p n i + s.now.getD i 0 * row.getD (n - i) 0) hp0 (by omega) (by omega) (by omega)) ?_)
      repeat refine gN ?_
      refine ⟨i + 1,?_,by omega,by omega⟩
      rw [offS,if_pos (by omega)]
      (refine fz hS ?_ ?_;all_goals (repeat' (first | refine fJ ?_ ?_ | exact True.intro));all_goals (try (first | exact kv | exact kFn1 | exact kQ | exact kQc | exact kIc | exact kFn0 | exact kOac | (refine kW (ov_of lks) rfl ?_ ?_))))
    · repeat refine gN ?_
      refine ⟨i + 1,?_,by omega,by omega⟩
      rw [offS,if_neg (by omega)]
      (refine fz hS ?_ ?_;all_goals (repeat' (first | refine fJ ?_ ?_ | exact True.intro));all_goals (try (first | exact kv | exact kFn1 | exact kQ | exact kQc | exact kIc | exact kFn0 | exact kOac | (refine kW (ov_of lks) rfl ?_ ?_))))
  · repeat refine gN ?_
    have : i = s.now.length:=by omega
    subst this
    rw [← hoff]
    (refine fz hS ?_ ?_;all_goals (repeat' (first | refine fJ ?_ ?_ | exact True.intro));all_goals (try (first | exact kv | exact kFn1 | exact kQ | exact kQc | exact kIc | exact kFn0 | exact kOac | (refine kW (ov_of lks) rfl ?_ ?_))))

theorem bm_l7 {S : Store} (hS : ∀ n b,S n = some b→b.cl S) {Q : Exit→St→Prop} {p : Int} (hp0 : 0 < p) (hp2 : p < 2147483648) {row : List Int} (hrl : row.length ≤ 4096) (hrr : inR p row) {n : Nat} (hn : n < row.length) {s : BM} (b1 : s.size ≤ n) (b2 : s.since ≤ n + 1) (b3 : s.now.length ≤ n + 1) (b4 : s.tn.length + s.since ≤ n + 2) (b5 : 0 < s.now.length) (hsn : inR p s.now) (hst : inR p s.tn) (hw : 0 < s.was∧s.was < p) (off y : Int) (M : Nat) (hM : M = max s.now.length (s.tn.length + s.since)) :
    awp Tryz.prog muF Tryz.f35.ntmps bmL7 (blockA 7 (thenA (fun st=>Weak st ⟨lk' [(16,iv n),(17,ivl .i64 off),(20,li s.now),(21,ivl .i64 y),(3,pi64 p),(6,.fn 76 [.pim [.sc (.int .i64 p)]]),(7,.fn 77 [.pim [.sc (.int .i64 p)]]),(8,li row),(11,.c (.win (.loc 53) 0 M M)),(12,li s.tn),(13,iv s.size),(14,iv s.since),(15,ivl .i64 s.was),(56,iv row.length),(57,iv n)],ov [(.loc 53,.ints tL .i64 (padTo s.now (s.tn.length + s.since)))] (pushS S)⟩) Q))
      ⟨lk' [(16,iv n),(17,ivl .i64 off),(20,li s.now),(21,ivl .i64 y),(3,pi64 p),(6,.fn 76 [.pim [.sc (.int .i64 p)]]),(7,.fn 77 [.pim [.sc (.int .i64 p)]]),(8,li row),(11,.c (.win (.loc 53) 0 s.now.length s.now.length)),(12,li s.tn),(13,iv s.size),(14,iv s.since),(15,ivl .i64 s.was),(56,iv row.length),(57,iv n)],ov [(.loc 53,.ints tL .i64 s.now)] (pushS S)⟩:=by
  refine awp_rep (fun j : Nat=>⟨lk' [(16,iv n),(17,ivl .i64 off),(20,li s.now),(21,ivl .i64 y),(3,pi64 p),(6,.fn 76 [.pim [.sc (.int .i64 p)]]),(7,.fn 77 [.pim [.sc (.int .i64 p)]]),(8,li row),(11,.c (.win (.loc 53) 0 (s.now.length + j) (s.now.length + j))),(12,li s.tn),(13,iv s.size),(14,iv s.since),(15,ivl .i64 s.was),(56,iv row.length),(57,iv n)],ov [(.loc 53,.ints tL .i64 (s.now ++ List.replicate j 0))] (pushS S)⟩)
    (fun j=>s.now.length + j ≤ M) (fun j=>M - (s.now.length + j)) 0 (by omega) (by rw [List.replicate_zero,List.append_nil];exact Weak.refl _) ?_
  intro j hj
  repeat refine gN ?_
  (refine zw ?_;refine s_cmp (fun g4=>?_) (fun g4=>?_))
  · repeat refine gN ?_
    refine aw_appOwn ttOk (q:=53) (Y:=[0]) (len:=s.now.length + j) (cm:=s.now.length + j) ?_ ?_ ?_
    rotate_left
    · exact srcE_win (L:=[0]) lks (by simp)
    · exact ⟨by omega,by simp,by decide,by show _ + 1 ≤ _;omega⟩
    repeat refine gN ?_
    refine ⟨j + 1,?_,by omega,by omega⟩
    have e : List.take (s.now.length + j) (s.now ++ List.replicate j 0) ++ [0] = s.now ++ List.replicate (j + 1) 0:=by
      rw [List.take_of_length_le (by simp),List.append_assoc,← List.replicate_succ']
    rw [e]
    refine Weak.trans (b:=⟨lk' [(16,iv n),(17,ivl .i64 off),(20,li s.now),(21,ivl .i64 y),(3,pi64 p),(6,.fn 76 [.pim [.sc (.int .i64 p)]]),(7,.fn 77 [.pim [.sc (.int .i64 p)]]),(8,li row),(11,.c (.win (.loc 105) 0 (s.now.length + (j + 1)) (s.now.length + (j + 1)))),(12,li s.tn),(13,iv s.size),(14,iv s.since),(15,ivl .i64 s.was),(56,iv row.length),(57,iv n)],ov [(.loc 105,.ints tL .i64 (s.now ++ List.replicate (j + 1) 0))] (pushS S)⟩) ?_ ?_
    · (refine fz hS ?_ ?_;all_goals (repeat' (first | refine fJ ?_ ?_ | exact True.intro));all_goals (try (first | exact kv | exact kFn1 | exact kQ | exact kQc | exact kIc | exact kFn0 | exact kOac | (refine kW (ov_of lks) rfl ?_ ?_))))
    · refine Weak.ren1 ints_nm0 ?_
      repeat' (first | exact trivial | refine ⟨⟨_,rfl,rW⟩,?_⟩ | refine ⟨⟨_,rfl,rK⟩,?_⟩ | refine ⟨⟨_,rfl,rK (by simp [AVal.at,AVal.at1,Cell.at])⟩,?_⟩)
  · repeat refine gN ?_
    have e : s.now ++ List.replicate j 0 = padTo s.now (s.tn.length + s.since):=by
      rw [padTo,show s.tn.length + s.since - s.now.length = j by omega]
    rw [e,show s.now.length + j = M by omega]
    (refine fz hS ?_ ?_;all_goals (repeat' (first | refine fJ ?_ ?_ | exact True.intro));all_goals (try (first | exact kv | exact kFn1 | exact kQ | exact kQc | exact kIc | exact kFn0 | exact kOac | (refine kW (ov_of lks) rfl ?_ ?_))))

theorem bm_l9 {S : Store} (hS : ∀ n b,S n = some b→b.cl S) {Q : Exit→St→Prop} {p : Int} (hp0 : 0 < p) (hp2 : p < 2147483648) {row : List Int} (hrl : row.length ≤ 4096) (hrr : inR p row) {n : Nat} (hn : n < row.length) {s : BM} (b1 : s.size ≤ n) (b2 : s.since ≤ n + 1) (b3 : s.now.length ≤ n + 1) (b4 : s.tn.length + s.since ≤ n + 2) (b5 : 0 < s.now.length) (hsn : inR p s.now) (hst : inR p s.tn) (hw : 0 < s.was∧s.was < p) (off y : Int) (hyr : 0 ≤ y∧y < p) (M : Nat) (hM : M = max s.now.length (s.tn.length + s.since)) (c0 : List Int) (hpl : c0.length = M) (hc0r : inR p c0) :
    awp Tryz.prog muF Tryz.f35.ntmps bmL9 (blockA 9 (thenA (fun st=>Weak st ⟨lk' [(16,iv n),(17,ivl .i64 off),(20,li s.now),(3,pi64 p),(6,.fn 76 [.pim [.sc (.int .i64 p)]]),(7,.fn 77 [.pim [.sc (.int .i64 p)]]),(8,li row),(11,.c (.win (.loc 53) 0 M M)),(12,li s.tn),(13,iv s.size),(14,iv s.since),(15,ivl .i64 s.was),(56,iv row.length),(57,iv n)],ov [(.loc 53,.ints tL .i64 (subS s.tn y p s.since s.tn.length c0))] (pushS S)⟩) Q))
      ⟨lk' [(106,li s.tn),(107,iv s.tn.length),(108,iv 0),(16,iv n),(17,ivl .i64 off),(20,li s.now),(21,ivl .i64 y),(3,pi64 p),(6,.fn 76 [.pim [.sc (.int .i64 p)]]),(7,.fn 77 [.pim [.sc (.int .i64 p)]]),(8,li row),(11,.c (.win (.loc 53) 0 M M)),(12,li s.tn),(13,iv s.size),(14,iv s.since),(15,ivl .i64 s.was),(56,iv row.length),(57,iv n)],ov [(.loc 53,.ints tL .i64 c0)] (pushS S)⟩:=by
  have hmul:=mul_p hp2
  refine awp_rep (fun i : Nat=>⟨lk' [(106,li s.tn),(107,iv s.tn.length),(108,iv i),(16,iv n),(17,ivl .i64 off),(20,li s.now),(21,ivl .i64 y),(3,pi64 p),(6,.fn 76 [.pim [.sc (.int .i64 p)]]),(7,.fn 77 [.pim [.sc (.int .i64 p)]]),(8,li row),(11,.c (.win (.loc 53) 0 M M)),(12,li s.tn),(13,iv s.size),(14,iv s.since),(15,ivl .i64 s.was),(56,iv row.length),(57,iv n)],ov [(.loc 53,.ints tL .i64 (subS s.tn y p s.since i c0))] (pushS S)⟩)
    (fun i=>i ≤ s.tn.length) (fun i=>s.tn.length + 1 - i) 0 (Nat.zero_le _) (Weak.refl _) ?_
  intro i hi
  obtain ⟨D,hD⟩ : ∃ D,D = subS s.tn y p s.since i c0:=⟨_,rfl⟩
  have hDr : inR p D:=by rw [hD];exact subS_rng hp0 hc0r i
  have hDl : D.length = M:=by rw [hD,subS_len,hpl]
  rw [← hD]
  repeat refine gN ?_
  (refine zw ?_;refine s_cmp (fun g4=>?_) (fun g4=>?_))
  · have hti:=inR_get hp0 hst i
    have hci:=inR_get hp0 hDr (i + s.since)
    have hm2:=hmul y _ hyr hti
    have hm3:=Int.emod_nonneg (y * s.tn.getD i 0) (show p ≠ 0 by omega)
    have hm4:=Int.emod_lt_of_pos (y * s.tn.getD i 0) hp0
    repeat refine gN ?_
    rw [show (i : Int).toNat = i by omega]
    repeat refine gN ?_
    (refine zw ?_;refine s_callG (c_mod1 p (D.getD (i + s.since) 0 - y * s.tn.getD i 0 % p) hp0 (by omega) (by omega) (by omega)) ?_)
    repeat refine gN ?_
    refine ⟨i + 1,?_,by omega,by omega⟩
    rw [subS,← hD]
    (refine fz hS ?_ ?_;all_goals (repeat' (first | refine fJ ?_ ?_ | exact True.intro));all_goals (try (first | exact kv | exact kFn1 | exact kQ | exact kQc | exact kIc | exact kFn0 | exact kOac | (refine kW (ov_of lks) rfl ?_ ?_))))
  · repeat refine gN ?_
    have : i = s.tn.length:=by omega
    subst this
    rw [hD]
    (refine fz hS ?_ ?_;all_goals (repeat' (first | refine fJ ?_ ?_ | exact True.intro));all_goals (try (first | exact kv | exact kFn1 | exact kQ | exact kQc | exact kIc | exact kFn0 | exact kOac | (refine kW (ov_of lks) rfl ?_ ?_))))
end Go.Proofs

/-
  recur: Shortest, where it is not refused: Berlekamp's and Massey's way.
-/
-- kv2
-- kv4
namespace Go.Proofs
open Go Go.Abs Go.Nums
attribute [local irreducible] thenA blockA awp aw Stp EndF EndP EndN EndG aOps aOpsM scopeA
set_option linter.unusedSimpArgs false
set_option linter.unusedVariables false
set_option maxHeartbeats 4000000

def shortF (p : Int) (l : List Int) : List Int × Int :=
  let s:=bmRun (invE p) (l.map (· % p)) p l.length
  if l.length < 2 * s.size then ([],340) else (outS s.now p s.size,0)

theorem bm_l3 {S : Store} (hS : ∀ n b,S n = some b→b.cl S) {Q : Exit→St→Prop} {p : Int} (hp : 1 < p) (hp2 : p < 2147483648) (hco : ∀ x,0 < x→x < p→Int.gcd x p = 1) {row : List Int} (hrl : row.length ≤ 4096) (hrr : inR p row) :
    awp Tryz.prog muF Tryz.f35.ntmps bmL3 (blockA 3 (thenA (fun st=>∃ s,s = bmRun (invE p) row p row.length∧Weak st ⟨lk' [(3,pi64 p),(6,.fn 76 [.pim [.sc (.int .i64 p)]]),(8,li row),(11,.c (.win (.loc 53) 0 s.now.length s.now.length)),(13,iv s.size)],ov [(.loc 53,.ints tL .i64 s.now)] (pushS S)⟩) Q)) ⟨lk' [(3,pi64 p),(6,.fn 76 [.pim [.sc (.int .i64 p)]]),(7,.fn 77 [.pim [.sc (.int .i64 p)]]),(8,li row),(11,.c (.win (.loc 53) 0 1 1)),(12,li [1]),(13,iv 0),(14,iv 1),(15,ivl .i64 1),(56,iv row.length),(57,iv 0)],ov [(.loc 53,.ints tL .i64 [1])] (pushS S)⟩:=by
  have hp0 : 0 < p:=by omega
  have hmul:=mul_p hp2
  have hinv : ∀ x,0 < x→x < p→x * invE p x % p = 1:=fun x h1 h2=>invE_ok hp (hco x h1 h2)
  have hB:=bmi_run hp hinv row
  refine awp_rep2 (fun (n : Nat) (s : BM)=>⟨lk' [(3,pi64 p),(6,.fn 76 [.pim [.sc (.int .i64 p)]]),(7,.fn 77 [.pim [.sc (.int .i64 p)]]),(8,li row),(11,.c (.win (.loc 53) 0 s.now.length s.now.length)),(12,li s.tn),(13,iv s.size),(14,iv s.since),(15,ivl .i64 s.was),(56,iv row.length),(57,iv n)],ov [(.loc 53,.ints tL .i64 s.now)] (pushS S)⟩)
    (fun n s=>n ≤ row.length∧s = bmRun (invE p) row p n) (fun n _=>row.length + 1 - n) 0 ⟨[1],[1],0,1,1⟩ ⟨Nat.zero_le _,rfl⟩ (Weak.refl _) ?_
  rintro n s ⟨hn,hs⟩
  have hI:=hB n
  rw [← hs] at hI
  obtain ⟨b1,b2,b3,b4,b5⟩:=bm_bound hI
  have hsn:=hI.r
  have hst:=hI.tr
  have hw:=hI.w
  repeat refine gN ?_
  (refine zw ?_;refine s_cmp (fun g2=>?_) (fun g2=>?_))
  rotate_left
  · have : n = row.length:=by omega
    subst this
    repeat refine gN ?_
    refine ⟨s,hs,?_⟩
    (refine fz hS ?_ ?_;all_goals (repeat' (first | refine fJ ?_ ?_ | exact True.intro));all_goals (try (first | exact kv | exact kFn1 | exact kQ | exact kQc | exact kIc | exact kFn0 | exact kOac | (refine kW (ov_of lks) rfl ?_ ?_))))
  repeat refine gN ?_
  obtain ⟨off,hoff⟩ : ∃ off,off = offS s.now row p n s.now.length:=⟨_,rfl⟩
  refine awp_midB (fun st=>Weak st ⟨lk' [(16,iv n),(17,ivl .i64 off),(3,pi64 p),(6,.fn 76 [.pim [.sc (.int .i64 p)]]),(7,.fn 77 [.pim [.sc (.int .i64 p)]]),(8,li row),(11,.c (.win (.loc 53) 0 s.now.length s.now.length)),(12,li s.tn),(13,iv s.size),(14,iv s.since),(15,ivl .i64 s.was),(56,iv row.length),(57,iv n)],ov [(.loc 53,.ints tL .i64 s.now)] (pushS S)⟩) ?_ ?_
  · refine awp_weak _ ?_ (bm_l5 hS hp0 hp2 (by omega) hrr (by omega) b1 b2 b3 b4 b5 hsn hst hw off hoff)
    (refine fz hS ?_ ?_;all_goals (repeat' (first | refine fJ ?_ ?_ | exact True.intro));all_goals (try (first | exact kv | exact kFn1 | exact kQ | exact kQc | exact kIc | exact kFn0 | exact kOac | (refine kW (ov_of lks) rfl ?_ ?_))))
  intro st hst2
  refine awp_weak _ hst2 ?_
  clear hst2 st
  have hor:=offS_rng (c:=s.now) (row:=row) hp0 (n:=n) s.now.length
  rw [← hoff] at hor
  repeat refine gN ?_
  (refine zw ?_;refine s_cmp (fun g3=>?_) (fun g3=>?_))
  · repeat refine gN ?_
    have hs' : (⟨s.now,s.tn,s.size,s.since + 1,s.was⟩ : BM) = bmRun (invE p) row p (n + 1):=by
      rw [bmRun,← hs];unfold bmStep;rw [← hoff,if_pos g3]
    refine ⟨n + 1,_,?_,⟨by omega,hs'⟩,by omega⟩
    (refine fz hS ?_ ?_;all_goals (repeat' (first | refine fJ ?_ ?_ | exact True.intro));all_goals (try (first | exact kv | exact kFn1 | exact kQ | exact kQc | exact kIc | exact kFn0 | exact kOac | (refine kW (ov_of lks) rfl ?_ ?_))))
  repeat refine gN ?_
  (refine zw ?_;refine s_read ((c_cloneP (.loc 53) s.now s.now.length (by omega) b5).read ⟨_,List.mem_cons_self,rfl⟩) ?_ (by intro p hp;first | (simp only [List.mem_singleton] at hp;subst hp;exact lks) | (simp only [List.mem_cons,List.not_mem_nil,or_false] at hp;rcases hp with rfl | rfl <;> exact lks)))
  repeat refine gN ?_
  have hir:=invE_rng (x:=s.was) hp0
  have hm:=hmul _ _ hor hir
  (refine zw ?_;refine s_callG (c_inv1 p s.was hp hp2 hw.1 hw.2 (hco _ hw.1 hw.2)) ?_)
  repeat refine gN ?_
  (refine zw ?_;refine s_callG (c_mod1 p (off * invE p s.was) hp0 (by omega) (by omega) (by omega)) ?_)
  obtain ⟨y,hy⟩ : ∃ y,y = off * invE p s.was % p:=⟨_,rfl⟩
  have hyr : 0 ≤ y∧y < p:=by rw [hy];exact ⟨Int.emod_nonneg _ (by omega),Int.emod_lt_of_pos _ hp0⟩
  rw [← hy]
  repeat refine gN ?_
  obtain ⟨M,hM⟩ : ∃ M,M = max s.now.length (s.tn.length + s.since):=⟨_,rfl⟩
  have hpl : (padTo s.now (s.tn.length + s.since)).length = M:=by rw [padTo_len,hM]
  refine awp_midB (fun st=>Weak st ⟨lk' [(16,iv n),(17,ivl .i64 off),(20,li s.now),(21,ivl .i64 y),(3,pi64 p),(6,.fn 76 [.pim [.sc (.int .i64 p)]]),(7,.fn 77 [.pim [.sc (.int .i64 p)]]),(8,li row),(11,.c (.win (.loc 53) 0 M M)),(12,li s.tn),(13,iv s.size),(14,iv s.since),(15,ivl .i64 s.was),(56,iv row.length),(57,iv n)],ov [(.loc 53,.ints tL .i64 (padTo s.now (s.tn.length + s.since)))] (pushS S)⟩) ?_ ?_
  · refine awp_weak _ ?_ (bm_l7 hS hp0 hp2 (by omega) hrr (by omega) b1 b2 b3 b4 b5 hsn hst hw off y M hM)
    (refine fz hS ?_ ?_;all_goals (repeat' (first | refine fJ ?_ ?_ | exact True.intro));all_goals (try (first | exact kv | exact kFn1 | exact kQ | exact kQc | exact kIc | exact kFn0 | exact kOac | (refine kW (ov_of lks) rfl ?_ ?_))))
  intro st hst2
  refine awp_weak _ hst2 ?_
  clear hst2 st
  obtain ⟨c0,hc0⟩ : ∃ c0,c0 = padTo s.now (s.tn.length + s.since):=⟨_,rfl⟩
  have hc0r : inR p c0:=by rw [hc0];exact padTo_rng hp0 hsn _
  rw [← hc0] at hpl ⊢
  repeat refine gN ?_
  refine awp_midB (fun st=>Weak st ⟨lk' [(16,iv n),(17,ivl .i64 off),(20,li s.now),(3,pi64 p),(6,.fn 76 [.pim [.sc (.int .i64 p)]]),(7,.fn 77 [.pim [.sc (.int .i64 p)]]),(8,li row),(11,.c (.win (.loc 53) 0 M M)),(12,li s.tn),(13,iv s.size),(14,iv s.since),(15,ivl .i64 s.was),(56,iv row.length),(57,iv n)],ov [(.loc 53,.ints tL .i64 (subS s.tn y p s.since s.tn.length c0))] (pushS S)⟩) ?_ ?_
  · refine awp_weak _ ?_ (bm_l9 hS hp0 hp2 (by omega) hrr (by omega) b1 b2 b3 b4 b5 hsn hst hw off y hyr M hM c0 hpl hc0r)
    (refine fz hS ?_ ?_;all_goals (repeat' (first | refine fJ ?_ ?_ | exact True.intro));all_goals (try (first | exact kv | exact kFn1 | exact kQ | exact kQc | exact kIc | exact kFn0 | exact kOac | (refine kW (ov_of lks) rfl ?_ ?_))))
  intro st hst2
  refine awp_weak _ hst2 ?_
  clear hst2 st
  have hcM : (subS s.tn y p s.since s.tn.length c0).length = M:=by rw [subS_len,hpl]
  repeat refine gN ?_
  (refine zw ?_;refine s_cmp (fun g4=>?_) (fun g4=>?_))
  · have hs' : (⟨subS s.tn y p s.since s.tn.length c0,s.tn,s.size,s.since + 1,s.was⟩ : BM) = bmRun (invE p) row p (n + 1):=by
      rw [bmRun,← hs];unfold bmStep;rw [← hoff,if_neg g3,if_pos (by omega),← hy,← hc0]
    rw [← hcM]
    repeat refine gN ?_
    refine ⟨n + 1,_,?_,⟨by omega,hs'⟩,by omega⟩
    (refine fz hS ?_ ?_;all_goals (repeat' (first | refine fJ ?_ ?_ | exact True.intro));all_goals (try (first | exact kv | exact kFn1 | exact kQ | exact kQc | exact kIc | exact kFn0 | exact kOac | (refine kW (ov_of lks) rfl ?_ ?_))))
  · have hs' : (⟨subS s.tn y p s.since s.tn.length c0,s.now,n + 1 - s.size,1,off⟩ : BM) = bmRun (invE p) row p (n + 1):=by
      rw [bmRun,← hs];unfold bmStep;rw [← hoff,if_neg g3,if_neg (by omega),← hy,← hc0]
    rw [← hcM]
    repeat refine gN ?_
    rw [show ((n + 1 : Nat) : Int) - (s.size : Int) = ((n + 1 - s.size : Nat) : Int) by omega]
    repeat refine gN ?_
    refine ⟨n + 1,_,?_,⟨by omega,hs'⟩,by omega⟩
    (refine fz hS ?_ ?_;all_goals (repeat' (first | refine fJ ?_ ?_ | exact True.intro));all_goals (try (first | exact kv | exact kFn1 | exact kQ | exact kQc | exact kIc | exact kFn0 | exact kOac | (refine kW (ov_of lks) rfl ?_ ?_))))
end Go.Proofs

/-
  recur: Shortest, where it is not refused.
-/
-- kv2
-- kv4
namespace Go.Proofs
open Go Go.Abs Go.Nums
attribute [local irreducible] thenA blockA awp aw Stp EndF EndP EndN EndG aOps aOpsM scopeA
set_option linter.unusedSimpArgs false
set_option linter.unusedVariables false
set_option maxHeartbeats 4000000

theorem c_shortrow (l : List Int) (p : Int) (hp : 1 < p) (hp2 : p < 2147483648) (hpB : primeB p = true) (hco : ∀ x,0 < x→x < p→Int.gcd x p = 1) (hl : l.length ≤ 4096) (hr : ∀ x ∈ l,-9223372036854775808 ≤ x∧x < 9223372036854775808) :
    AFun Tryz.prog 35 [li l,ivl .i64 p] (.tup [li (shortF p l).1,ivl .i64 (shortF p l).2]):=by
  have hinv : ∀ x,0 < x→x < p→x * invE p x % p = 1:=fun x h1 h2=>invE_ok hp (hco x h1 h2)
  obtain ⟨row,hrow⟩ : ∃ row,row = l.map (· % p):=⟨_,rfl⟩
  have hrl : row.length = l.length:=by rw [hrow,List.length_map]
  have hrr : inR p row:=fun x hx=>by
    rw [hrow] at hx
    obtain ⟨y,-,rfl⟩:=List.mem_map.1 hx
    exact ⟨Int.emod_nonneg _ (by omega),Int.emod_lt_of_pos _ (by omega)⟩
  have hB:=bmi_run hp hinv row
  refine aF (mu:=muF) Tryz.func35 fun S hS=>?_
  repeat refine gN ?_
  (refine zw ?_;refine s_call (c_prime p (by omega) (by omega)) ?_)
  rw [hpB]
  repeat refine gN ?_
  (refine zw ?_;refine s_cmp (fun g=>?_) (fun g=>?_))
  · exact absurd g (by omega)
  repeat refine gN ?_
  have hp0 : 0 < p:=by omega
  refine awp_midB (fun st=>Weak st ⟨lk' [(3,pi64 p),(6,.fn 76 [.pim [.sc (.int .i64 p)]]),(7,.fn 77 [.pim [.sc (.int .i64 p)]]),(8,li row)],ov [] (pushS S)⟩) ?_ ?_
  ·
    refine awp_rep (fun i : Nat=>⟨lk' [(3,pi64 p),(6,.fn 76 [.pim [.sc (.int .i64 p)]]),(7,.fn 77 [.pim [.sc (.int .i64 p)]]),(8,.c (.win (.loc 38) 0 row.length row.length)),(39,li l),(40,iv l.length),(41,iv i)],ov [(.loc 38,.ints tL .i64 (row.take i ++ List.replicate (row.length - i) 0))] (pushS S)⟩)
      (fun i=>i ≤ row.length) (fun i=>row.length + 1 - i) 0 (by omega) ?_ ?_
    · (refine fz hS ?_ ?_;all_goals (repeat' (first | refine fJ ?_ ?_ | exact True.intro));all_goals (try (first | exact kv | exact kFn1 | exact kQ | exact kQc | exact kIc | exact kFn0 | exact kOac | (refine kW (ov_of lks) rfl ?_ ?_))))
      · exact kO (by simp [hrl])
      · exact kFnP (ov_of lks) rfl
      · exact kFnP (ov_of lks) rfl
    intro i hi
    repeat refine gN ?_
    (refine zw ?_;refine s_cmp (fun g2=>?_) (fun g2=>?_))
    · have hil : i < l.length:=by omega
      obtain ⟨x,hx⟩ : ∃ x,l[i]? = some x:=⟨_,List.getElem?_eq_getElem hil⟩
      have hxr:=hr x (List.mem_of_getElem? hx)
      have hxD : l.getD i 0 = x:=by rw [List.getD_eq_getElem?_getD,hx];rfl
      have hrD : row.getD i 0 = x % p:=by rw [hrow,List.getD_eq_getElem?_getD,List.getElem?_map,hx];rfl
      repeat refine gN ?_
      rw [show (i : Int).toNat = i by omega,hxD]
      repeat refine gN ?_
      (refine zw ?_;refine s_callG (c_mod1 p x hp0 (by omega) hxr.1 hxr.2) ?_)
      repeat refine gN ?_
      rw [set_build (by omega) rfl hrD.symm]
      refine ⟨i + 1,?_,by omega,by omega⟩
      (refine fz hS ?_ ?_;all_goals (repeat' (first | refine fJ ?_ ?_ | exact True.intro));all_goals (try (first | exact kv | exact kFn1 | exact kQ | exact kQc | exact kIc | exact kFn0 | exact kOac | (refine kW (ov_of lks) rfl ?_ ?_))))
    · repeat refine gN ?_
      have : i = row.length:=by omega
      subst this
      rw [List.take_length,Nat.sub_self,List.replicate_zero,List.append_nil]
      (refine fz hS ?_ ?_;all_goals (repeat' (first | refine fJ ?_ ?_ | exact True.intro));all_goals (try (first | exact kv | exact kFn1 | exact kQ | exact kQc | exact kIc | exact kFn0 | exact kOac | (refine kW (ov_of lks) rfl ?_ ?_))))
      · simp
      · simp
  intro st hst
  refine awp_weak _ hst ?_
  clear hst st
  repeat refine gN ?_
  refine awp_midB (fun st=>∃ s,s = bmRun (invE p) row p row.length∧Weak st ⟨lk' [(3,pi64 p),(6,.fn 76 [.pim [.sc (.int .i64 p)]]),(8,li row),(11,.c (.win (.loc 53) 0 s.now.length s.now.length)),(13,iv s.size)],ov [(.loc 53,.ints tL .i64 s.now)] (pushS S)⟩) ?_ ?_
  · refine awp_weak _ ?_ (bm_l3 hS hp hp2 hco (by omega) hrr)
    (refine fz hS ?_ ?_;all_goals (repeat' (first | refine fJ ?_ ?_ | exact True.intro));all_goals (try (first | exact kv | exact kFn1 | exact kQ | exact kQc | exact kIc | exact kFn0 | exact kOac | (refine kW (ov_of lks) rfl ?_ ?_))))
    · simp
    · rfl
  rintro st ⟨s,hs,hst⟩
  refine awp_weak _ hst ?_
  clear hst st
  have hI:=hB row.length
  rw [← hs] at hI
  obtain ⟨b1,b2,b3,b4,b5⟩:=bm_bound hI
  have hsn:=hI.r
  have hF : shortF p l = if l.length < 2 * s.size then ([],340) else (outS s.now p s.size,0):=by
    unfold shortF
    rw [← hrow,← hrl,← hs]
  rw [hF]
  repeat refine gN ?_
  (refine zw ?_;refine s_cmp (fun g2=>?_) (fun g2=>?_))
  · rw [if_pos (by omega)]
    repeat refine gN ?_
    (refine eF hS ?_ (fl':=[(4,li []),(5,ivl .i64 340)]);(repeat' (first | refine fJ ?_ ?_ | exact True.intro);all_goals (try (first | exact kv | exact kFn1 | exact kQ | exact kQc | exact kIc | exact kFn0 | exact kOac | (refine kW (ov_of lks) rfl ?_ ?_)))))
  rw [if_neg (by omega)]
  have hol:=outS_len s.now p s.size
  repeat refine gN ?_
  refine awp_midB (fun st=>Weak st ⟨lk' [(24,.c (.win (.loc 152) 0 s.size s.size))],ov [(.loc 152,.ints tL .i64 (outS s.now p s.size))] (pushS S)⟩) ?_ ?_
  · refine awp_rep (fun i : Nat=>⟨lk' [(6,.fn 76 [.pim [.sc (.int .i64 p)]]),(11,.c (.win (.loc 53) 0 s.now.length s.now.length)),(24,.c (.win (.loc 152) 0 s.size s.size)),(153,iv s.size),(154,iv i)],ov [(.loc 152,.ints tL .i64 ((outS s.now p s.size).take i ++ List.replicate (s.size - i) 0)),(.loc 53,.ints tL .i64 s.now)] (pushS S)⟩)
      (fun i=>i ≤ s.size) (fun i=>s.size + 1 - i) 0 (Nat.zero_le _) ?_ ?_
    · (refine fz hS ?_ ?_;all_goals (repeat' (first | refine fJ ?_ ?_ | exact True.intro));all_goals (try (first | exact kv | exact kFn1 | exact kQ | exact kQc | exact kIc | exact kFn0 | exact kOac | (refine kW (ov_of lks) rfl ?_ ?_))))
    intro i hi
    repeat refine gN ?_
    (refine zw ?_;refine s_cmp (fun g3=>?_) (fun g3=>?_))
    · have hoi:=outS_get (now:=s.now) (p:=p) (size:=s.size) (i:=i) (by omega)
      have hni:=inR_get hp0 hsn (i + 1)
      repeat refine gN ?_
      (refine zw ?_;refine s_cmp (fun g4=>?_) (fun g4=>?_))
      · repeat refine gN ?_
        rw [Int.zero_sub]
        (refine zw ?_;refine s_callG (c_mod1 p (-(s.now.getD (i + 1) 0)) hp0 (by omega) (by omega) (by omega)) ?_)
        repeat refine gN ?_
        rw [set_build (by omega) (by omega) hoi.symm]
        refine ⟨i + 1,?_,by omega,by omega⟩
        (refine fz hS ?_ ?_;all_goals (repeat' (first | refine fJ ?_ ?_ | exact True.intro));all_goals (try (first | exact kv | exact kFn1 | exact kQ | exact kQc | exact kIc | exact kFn0 | exact kOac | (refine kW (ov_of lks) rfl ?_ ?_))))
      · have hoz : s.now.getD (i + 1) 0 = 0:=getD_out (by omega)
        rw [hoz,Int.neg_zero,Int.zero_emod] at hoi
        rw [skip_build (by omega) (by omega) hoi]
        repeat refine gN ?_
        refine ⟨i + 1,?_,by omega,by omega⟩
        (refine fz hS ?_ ?_;all_goals (repeat' (first | refine fJ ?_ ?_ | exact True.intro));all_goals (try (first | exact kv | exact kFn1 | exact kQ | exact kQc | exact kIc | exact kFn0 | exact kOac | (refine kW (ov_of lks) rfl ?_ ?_))))
    · repeat refine gN ?_
      have : i = s.size:=by omega
      subst this
      rw [List.take_of_length_le (by omega),Nat.sub_self,List.replicate_zero,List.append_nil]
      (refine fz hS ?_ ?_;all_goals (repeat' (first | refine fJ ?_ ?_ | exact True.intro));all_goals (try (first | exact kv | exact kFn1 | exact kQ | exact kQc | exact kIc | exact kFn0 | exact kOac | (refine kW (ov_of lks) rfl ?_ ?_))))
  intro st hst
  refine awp_weak _ hst ?_
  clear hst st
  repeat refine gN ?_
  (refine eF hS ?_ (fl':=[(4,li (outS s.now p s.size)),(5,ivl .i64 0)]);(repeat' (first | refine fJ ?_ ?_ | exact True.intro);all_goals (try (first | exact kv | exact kFn1 | exact kQ | exact kQc | exact kIc | exact kFn0 | exact kOac | (refine kW (ov_of lks) rfl ?_ ?_)))))
  · omega
  · rw [List.drop_zero,List.take_of_length_le (by omega)]
end Go.Proofs

/-
  Numbers that no number up to their root divides are prime to all below them.
-/
namespace Go.Proofs
open Go Go.Abs Go.Nums

def noDiv (p : Nat) : Nat→Nat→Nat→Bool
  | 0,lo,n=>(List.range n).all fun i=>p % (lo + i) != 0
  | f + 1,lo,n=>if n ≤ 64 then (List.range n).all fun i=>p % (lo + i) != 0 else noDiv p f lo (n / 2) && noDiv p f (lo + n / 2) (n - n / 2)
theorem noDiv_ok {p : Nat} : ∀ (f lo n : Nat),noDiv p f lo n = true→∀ d,lo ≤ d→d < lo + n→p % d ≠ 0
  | 0,lo,n,h,d,h1,h2=>by
    have:=List.all_eq_true.1 h (d - lo) (by simp;omega)
    rw [show lo + (d - lo) = d by omega] at this
    simpa using this
  | f + 1,lo,n,h,d,h1,h2=>by
    rw [noDiv] at h
    split at h
    · have:=List.all_eq_true.1 h (d - lo) (by simp;omega)
      rw [show lo + (d - lo) = d by omega] at this
      simpa using this
    · rw [Bool.and_eq_true] at h
      by_cases hd : d < lo + n / 2
      · exact noDiv_ok f lo (n / 2) h.1 d h1 hd
      · exact noDiv_ok f (lo + n / 2) (n - n / 2) h.2 d (by omega) (by omega)
theorem prm_gcd {p f n : Nat} (h : noDiv p f 2 n = true) (hn : p < (n + 2) * (n + 2)) (x : Int) (h1 : 0 < x) (h2 : x < p) : Int.gcd x p = 1:=by
  have hno : ∀ d,2 ≤ d→d < n + 2→p % d ≠ 0:=fun d h3 h4=>noDiv_ok f 2 n h d h3 (by omega)
  obtain ⟨g,hg⟩ : ∃ g,g = Int.gcd x p:=⟨_,rfl⟩
  have hgx : g ∣ x.natAbs:=by rw [hg];exact Nat.gcd_dvd_left _ _
  have hgp : g ∣ p:=by
    have : g ∣ (p : Int).natAbs:=by rw [hg];exact Nat.gcd_dvd_right _ _
    simpa using this
  have hgl : g ≤ x.natAbs:=Nat.le_of_dvd (by omega) hgx
  obtain ⟨k,hk⟩:=hgp
  rw [← hg]
  refine Decidable.byContradiction fun hne=>?_
  have hg0 : g ≠ 0:=fun e=>by rw [e,Nat.zero_mul] at hk;omega
  have hk1 : 2 ≤ k:=by
    refine Nat.le_of_not_lt fun q=>?_
    have : g * k ≤ g * 1:=Nat.mul_le_mul_left _ (by omega)
    omega
  rcases Nat.lt_or_ge g (n + 2) with q | q
  · exact hno g (by omega) q (by rw [hk];exact Nat.mul_mod_right _ _)
  · have : k < n + 2:=by
      refine Nat.lt_of_not_ge fun q2=>?_
      have:=Nat.mul_le_mul q q2
      omega
    exact hno k hk1 this (by rw [hk];exact Nat.mul_mod_left _ _)
theorem gcd_101 : ∀ x : Int,0 < x→x < 101→Int.gcd x 101 = 1:=prm_gcd (p:=101) (f:=0) (n:=9) (by decide) (by decide)
end Go.Proofs

/-
  recur: what the laws ask of primes and of one list, reckoned.
-/
namespace Go.Proofs
open Go Go.Abs Go.Nums
theorem pB_101 : primeB 101 = true:=by decide +kernel
theorem short_awake : shortF 101 [0,1,1,2,3,5,8,13] = ([1,1],0):=by decide +kernel
end Go.Proofs

/-
  The reference: short, NatDown, Cut.
-/
namespace Go.Proofs
open Go Go.Abs Go.Nums
attribute [local irreducible] thenA blockA awp aw Stp EndF EndP EndN EndG aOps
set_option linter.unusedSimpArgs false
set_option maxHeartbeats 4000000

theorem c_short0 (l : List Nat) (hl : rng H l) (hs : l.length < 2 ^ 40) (d : Nat) (hd0 : 0 < d) (hd : d ≤ 4294967296) : AFun Tryz.prog 103 [us l,uv d] (.tup [us (digs H (val H l / d)),uv (val H l % d)]):=by
  refine aF (mu:=muF) Tryz.func103 fun S hS=>?_
  obtain ⟨n,hn⟩ : ∃ n,n = l.length:=⟨_,rfl⟩
  repeat refine gN ?_
  refine awp_rep3 (fun (i : Nat) (o : List Nat) (r : Nat)=>⟨lk' [(0,us l),(1,uv d),(6,.c (.win (.loc 12) 0 n n)),(7,uv r),(8,ivl .i64 ((i : Int) - 1))],ov [(.loc 12,.ints 55 .u64 (U o))] (pushS S)⟩)
    (fun i o r=>i ≤ n∧o.length = n∧rng H o∧r < d∧val H (l.drop i) = val H (o.drop i) * d + r) (fun i _ _=>i)
    n (List.replicate n 0) 0 ⟨Nat.le_refl _,by simp,rng_rep (by decide) _,hd0,by rw [List.drop_of_length_le (by omega),List.drop_of_length_le (by simp)];simp [val]⟩ ?_ ?_
  · rw [show ((l.length : Nat) : Int).toNat = n by omega]
    (refine fz hS ?_ ?_;all_goals (repeat' (first | refine fJ ?_ ?_ | exact True.intro));all_goals (try (first | exact kv | (refine kW (ov_of lks) rfl ?_ ?_))))
    exact kO (U_rep _ 0)
  rintro i o r ⟨h1,h2,h3,h4,h5⟩
  have hlo:=U_len o
  repeat refine gN ?_
  (refine zw ?_;refine s_cmp (fun h6=>?_) (fun h6=>?_))
  · obtain ⟨j,rfl⟩ : ∃ j,i = j + 1:=⟨i - 1,by omega⟩
    rw [show ((j + 1 : Nat) : Int) - 1 = (j : Int) by omega]
    have hx : l.getD j 0 < 4294967296:=getD_lt (by decide) hl j
    obtain ⟨x,hxe⟩ : ∃ x,x = l.getD j 0:=⟨_,rfl⟩
    rw [← hxe] at hx
    have hq : (r * 4294967296 + x) / d < 4294967296:=by
      rw [Nat.div_lt_iff_lt_mul hd0]
      have : (r + 1) * 4294967296 ≤ d * 4294967296:=Nat.mul_le_mul_right _ h4
      omega
    repeat refine gN ?_
    rw [← hxe]
    refine ⟨j,o.set j ((r * 4294967296 + x) / d),(r * 4294967296 + x) % d,?_,⟨by omega,by simpa using h2,rng_set h3 hq,Nat.mod_lt _ hd0,?_⟩,by omega⟩
    · (refine fz hS ?_ ?_;all_goals (repeat' (first | refine fJ ?_ ?_ | exact True.intro));all_goals (try (first | exact kv | (refine kW (ov_of lks) rfl ?_ ?_))))
    · rw [drop_set_at (by omega),drop_getD (l:=l) (by omega),val_cons,val_cons,← hxe]
      exact short_step H _ _ d r x _ _ h5 (Nat.div_add_mod' _ _)
  · repeat refine gN ?_
    have hi : i = 0:=by omega
    subst hi
    rw [List.drop_zero,List.drop_zero] at h5
    refine aw_weak ⟨lk' [(36,us o),(7,uv r)],ov [] (pushS S)⟩ ?_ ?_
    · (refine fz hS ?_ ?_;all_goals (repeat' (first | refine fJ ?_ ?_ | exact True.intro));all_goals (try (first | exact kv | (refine kW (ov_of lks) rfl ?_ ?_))))
      · omega
      · rw [List.drop_zero,U_take,take_all (by omega)]
    (refine zw ?_;refine s_call (c_low o h3 (by omega)) ?_)
    repeat refine gN ?_
    rw [show val H l / d = val H o by rw [h5,Nat.mul_comm,Nat.mul_add_div hd0,Nat.div_eq_of_lt h4,Nat.add_zero],show val H l % d = r by rw [h5,Nat.mul_comm,Nat.mul_add_mod,Nat.mod_eq_of_lt h4]]
    (refine eF hS ?_ (fl':=[(4,us (digs H (val H o))),(5,uv r)]);(repeat' (first | refine fJ ?_ ?_ | exact True.intro);all_goals (try (first | exact kv | (refine kW (ov_of lks) rfl ?_ ?_)))))

namespace Nu
end Nu

end Go.Proofs

/-
  The reference: times, less (in place).
-/
namespace Go.Proofs
open Go Go.Abs Go.Nums
attribute [local irreducible] thenA blockA awp aw Stp EndF EndP EndN EndG aOps
set_option linter.unusedSimpArgs false
set_option maxHeartbeats 4000000

def padH (k n : Nat) : List Nat:=digs H n ++ List.replicate (k - (digs H n).length) 0
theorem padH_val (k n : Nat) : val H (padH k n) = n:=by rw [padH,val_append,val_digs hH,val_rep0];simp
theorem padH_len {k n : Nat} (h : n < H ^ k) : (padH k n).length = k:=by
  have:=(digs_len hH).2 h
  simp [padH];omega
theorem padH_rng (k n : Nat) : rng H (padH k n):=rng_append.2 ⟨rng_digs hH n,rng_rep (by decide) _⟩
theorem padH_eq {l : List Nat} (hr : rng H l) : l = padH l.length (val H l) :=
  val_inj (b:=H) (by decide) hr (padH_rng _ _) (padH_len (val_lt hr)).symm (padH_val _ _).symm
theorem padH_of {l : List Nat} {k n : Nat} (hr : rng H l) (hl : l.length = k) (hv : val H l = n) : l = padH k n:=by subst hl;subst hv;exact padH_eq hr

theorem c_times0 (l : List Nat) (hl : rng H l) (d k : Nat) (hd : d < 4294967296) (hk : k < 2 ^ 40) (hs : val H l * d < H ^ k) (hlk : l.length ≤ k) : AMade Tryz.prog 161 [us l,uv d,iv k] (fun z=>.c (.win z 0 k k)) (oi (padH k (val H l * d))):=by
  refine amade (mu:=muF) Tryz.func161 rfl (by decide) rfl (by decide) (Nat.le_of_ble_eq_true rfl) (by simp [nm0,AVal.at,AVal.at1,Cell.at]) (by intros;rfl) (by intro n m h;exact (show n = m from h).symm) nmX fun S hS=>?_
  repeat refine gN ?_
  refine awp_rep3 (fun (i : Nat) (o : List Nat) (c : Nat)=>⟨lk' [(0,us l),(1,uv d),(2,iv k),(7,.c (.win (.loc 12) 0 k k)),(8,uv c),(9,iv i)],ov [(.loc 12,.ints 55 .u64 (U o))] (pushS S)⟩)
    (fun i o c=>i ≤ k∧o.length = k∧rng H o∧c < 4294967296∧val H (o.take i) + H ^ i * c = val H (l.take i) * d) (fun i _ _=>k - i)
    0 (List.replicate k 0) 0 ⟨Nat.zero_le _,by simp,rng_rep (by decide) _,by decide,by simp [val]⟩ ?_ ?_
  · rw [show ((k : Nat) : Int).toNat = k by omega]
    (refine fz hS ?_ ?_;all_goals (repeat' (first | refine fJ ?_ ?_ | exact True.intro));all_goals (try (first | exact kv | (refine kW (ov_of lks) rfl ?_ ?_))))
    exact kO (U_rep _ 0)
  rintro i o c ⟨h1,h2,h3,h4,h5⟩
  have hlo:=U_len o
  repeat refine gN ?_
  (refine zw ?_;refine s_cmp (fun g1=>?_) (fun g1=>?_))
  · have hx : l.getD i 0 < 4294967296:=getD_lt (by decide) hl i
    have hta:=val_take_succ H l i
    obtain ⟨x,hxe⟩ : ∃ x,x = l.getD i 0:=⟨_,rfl⟩
    rw [← hxe] at hx hta
    have hxd : x * d ≤ 4294967295 * 4294967295:=Nat.mul_le_mul (Nat.le_of_lt_succ hx) (Nat.le_of_lt_succ hd)
    repeat refine gN ?_
    (refine zw ?_;refine s_call (c_dig l i (by omega)) ?_)
    rw [← hxe]
    repeat refine gN ?_
    refine ⟨i + 1,o.set i ((x * d + c) % 4294967296),(x * d + c) / 4294967296,?_,⟨by omega,by simpa using h2,rng_set h3 (Nat.mod_lt _ (by decide)),by omega,?_⟩,by omega⟩
    · (refine fz hS ?_ ?_;all_goals (repeat' (first | refine fJ ?_ ?_ | exact True.intro));all_goals (try (first | exact kv | (refine kW (ov_of lks) rfl ?_ ?_))))
    · rw [val_set_take (by omega),hta,Nat.add_mul,← h5,Nat.pow_succ,Nat.mul_assoc (H ^ i) H,Nat.add_assoc,← Nat.mul_add,show (x * d + c) % 4294967296 + H * ((x * d + c) / 4294967296) = x * d + c from Nat.mod_add_div _ _,Nat.mul_add,Nat.mul_assoc]
      omega
  · repeat refine gN ?_
    have hi : i = k:=by omega
    subst hi
    rw [take_all (by omega),take_all hlk] at h5
    have hc : c = 0:=by
      rcases Nat.eq_zero_or_pos c with q | q
      · exact q
      · have : H ^ i ≤ H ^ i * c:=Nat.le_mul_of_pos_right _ q
        omega
    subst hc
    rw [← padH_of h3 h2 (by omega)]
    (refine endG ttOk (l:=(.loc 12)) (fl':=[(6,.c (.win (.loc 12) 0 i i))]) (.inr rfl) hS (by exact rfl) (by exact rfl) ?_ ?_ (by exact rfl) (by exact rfl) (by exact rfl);all_goals (repeat' (first | refine fJ ?_ ?_ | exact True.intro);all_goals (try (first | exact kv | (refine kW (ov_of lks) rfl ?_ ?_)))))

theorem c_lessT (z : Nm) (pre w post y : List Nat) (q N cm : Nat) (hw : rng H w) (hwl : w.length = y.length + 1) (hy : rng H y) (hyl : y.length < 2 ^ 38) (hq : q < 4294967296) (hN : N = (pre ++ w ++ post).length) (hN2 : N < 2 ^ 40) (hcm : N ≤ cm) (hle : val H y * q ≤ val H w) :
    AProc Tryz.prog 162 [.c (.win z 0 N cm),iv pre.length,us y,uv q] [(z,oi (pre ++ w ++ post))] [(z,oi (pre ++ padH (y.length + 1) (val H w - val H y * q) ++ post))] (bvl true):=by
  have hlt : val H y * q < H ^ (y.length + 1):=Nat.lt_of_le_of_lt hle (by rw [← hwl];exact val_lt hw)
  have hNl : N = pre.length + w.length + post.length:=by rw [hN];simp;omega
  (refine aproc1 (mu:=muF) Tryz.func162 rfl (by decide) rfl (by decide) (Nat.le_of_ble_eq_true rfl) (by simp [AVal.at,AVal.at1,Cell.at]) (by simp [AVal.at,AVal.at1,Cell.at]) (by simp [AVal.at,AVal.at1,Cell.at]) nmX nmX fun S hS=>?_;simp only [List.map_cons,List.map_nil,AVal.map,AVal.map1,Cell.map])
  repeat refine gN ?_
  (refine zw ?_;refine s_made (c_times0 y hy q (y.length + 1) hq (by omega) hlt (by omega)) ?_)
  obtain ⟨P,hP⟩ : ∃ P,P = padH (y.length + 1) (val H y * q):=⟨_,rfl⟩
  have hPl : P.length = y.length + 1:=by rw [hP];exact padH_len hlt
  have hPr : rng H P:=by rw [hP];exact padH_rng _ _
  have hPv : val H P = val H y * q:=by rw [hP];exact padH_val _ _
  rw [← hP]
  have hUP:=U_len P
  refine aw_weak ⟨lk' [(0,.c (.win (.out z) 0 N cm)),(1,iv pre.length),(2,us y),(19,us P)],ov [(.out z,oi (pre ++ w ++ post))] (pushS S)⟩ ?_ ?_
  · (refine fz hS ?_ ?_;all_goals (repeat' (first | refine fJ ?_ ?_ | exact True.intro));all_goals (try (first | exact kv | (refine kW (ov_of lks) rfl ?_ ?_))))
    · omega
    · rw [List.drop_zero,U_take,take_all (by omega)]
  repeat refine gN ?_
  refine awp_midB (fun st=>Weak st ⟨lk' [(0,.c (.win (.out z) 0 N cm)),(1,iv pre.length),(2,us y),(9,us P)],ov [(.out z,oi (pre ++ w ++ post))] (pushS S)⟩) ?_ ?_
  · refine awp_rep (ι:=Nat) (fun i=>⟨lk' [(0,.c (.win (.out z) 0 N cm)),(1,iv pre.length),(2,us y),(9,us P),(10,ivl .i64 ((i : Int) - 1))],ov [(.out z,oi (pre ++ w ++ post))] (pushS S)⟩) (fun i=>i ≤ y.length + 1∧P.drop i = w.drop i) (fun i=>i)
      (y.length + 1) ⟨Nat.le_refl _,by rw [List.drop_of_length_le (by omega),List.drop_of_length_le (by omega)]⟩ ?_ ?_
    · (refine fz hS ?_ ?_;all_goals (repeat' (first | refine fJ ?_ ?_ | exact True.intro));all_goals (try (first | exact kv | (refine kW (ov_of lks) rfl ?_ ?_))))
    rintro i ⟨h1,h2⟩
    repeat refine gN ?_
    (refine zw ?_;refine s_cmp (fun g1=>?_) (fun g1=>?_))
    · obtain ⟨j,rfl⟩ : ∃ j,i = j + 1:=⟨i - 1,by omega⟩
      rw [show ((j + 1 : Nat) : Int) - 1 = (j : Int) by omega]
      have hj : j < w.length:=by omega
      have hm:=mid_get (p:=pre) (r:=post) hj
      have hUw:=U_len (pre ++ w ++ post)
      repeat refine gN ?_
      rw [hm]
      (refine zw ?_;refine s_cmp (fun g2=>?_) (fun g2=>?_))
      · repeat refine gN ?_
        (refine fz hS ?_ ?_;all_goals (repeat' (first | refine fJ ?_ ?_ | exact True.intro));all_goals (try (first | exact kv | (refine kW (ov_of lks) rfl ?_ ?_))))
      repeat refine gN ?_
      rw [hm]
      (refine zw ?_;refine s_cmp (fun g3=>?_) (fun g3=>?_))
      · repeat refine gN ?_
        exfalso
        have : val H w < val H y * q:=by
          have:=val_top_lt hw (i:=j) (m:=P) (by omega) (by omega) h2.symm (by omega)
          rw [hPv] at this;omega
        omega
      · repeat refine gN ?_
        refine ⟨j,?_,⟨by omega,?_⟩,by omega⟩
        · (refine fz hS ?_ ?_;all_goals (repeat' (first | refine fJ ?_ ?_ | exact True.intro));all_goals (try (first | exact kv | (refine kW (ov_of lks) rfl ?_ ?_))))
        · rw [drop_getD (l:=P) (by omega),drop_getD (l:=w) hj,h2,show P.getD j 0 = w.getD j 0 by omega]
    · repeat refine gN ?_
      (refine fz hS ?_ ?_;all_goals (repeat' (first | refine fJ ?_ ?_ | exact True.intro));all_goals (try (first | exact kv | (refine kW (ov_of lks) rfl ?_ ?_))))
  intro st hst
  refine awp_weak _ hst ?_
  clear hst st
  repeat refine gN ?_
  refine awp_midB (fun st=>Weak st ⟨lk' [(0,.c (.win (.out z) 0 N cm))],ov [(.out z,oi (pre ++ padH (y.length + 1) (val H w - val H y * q) ++ post))] (pushS S)⟩) ?_ ?_
  · refine awp_rep3 (fun (i : Nat) (v : List Nat) (c : Nat)=>⟨lk' [(0,.c (.win (.out z) 0 N cm)),(1,iv pre.length),(2,us y),(9,us P),(11,uv c),(12,iv i)],ov [(.out z,oi (pre ++ v ++ post))] (pushS S)⟩)
      (fun i v c=>i ≤ y.length + 1∧v.length = y.length + 1∧rng H v∧c ≤ 1∧v.drop i = w.drop i∧val H (v.take i) + val H (P.take i) = val H (w.take i) + H ^ i * c) (fun i _ _=>y.length + 1 - i)
      0 w 0 ⟨Nat.zero_le _,hwl,hw,by omega,rfl,by simp [val]⟩ ?_ ?_
    · (refine fz hS ?_ ?_;all_goals (repeat' (first | refine fJ ?_ ?_ | exact True.intro));all_goals (try (first | exact kv | (refine kW (ov_of lks) rfl ?_ ?_))))
    rintro i v c ⟨h1,h2,h3,h4,h5,h6⟩
    have hUv:=U_len (pre ++ v ++ post)
    have hNv : (pre ++ v ++ post).length = N:=by simp;omega
    repeat refine gN ?_
    (refine zw ?_;refine s_cmp (fun g1=>?_) (fun g1=>?_))
    · have hi : i < v.length:=by omega
      have hm:=mid_get (p:=pre) (r:=post) hi
      have hms:=fun s=>mid_set (p:=pre) (r:=post) (s:=s) hi
      have hvw : v.getD i 0 = w.getD i 0:=by
        have e:=h5
        rw [drop_getD (l:=v) hi,drop_getD (l:=w) (by omega)] at e
        exact (List.cons.inj e).1
      have hx : w.getD i 0 < 4294967296:=getD_lt (by decide) hw i
      have hp : P.getD i 0 < 4294967296:=getD_lt (by decide) hPr i
      have htw:=val_take_succ H w i
      have htp:=val_take_succ H P i
      rw [hvw] at hm
      obtain ⟨x,hxe⟩ : ∃ x,x = w.getD i 0:=⟨_,rfl⟩
      obtain ⟨k,hke⟩ : ∃ k,k = P.getD i 0:=⟨_,rfl⟩
      rw [← hxe] at hm hx htw
      rw [← hke] at hp htp
      have hx' : (pre ++ v ++ post).getD (pre.length + i) 0 < 4294967296:=by rw [hm];exact hx
      have hp' : P.getD i 0 < 4294967296:=by rw [← hke];exact hp
      repeat refine gN ?_
      rw [hm,← hke,hms]
      refine ⟨i + 1,v.set i ((4294967296 + x - k - c) % 4294967296),1 - (4294967296 + x - k - c) / 4294967296,?_,⟨by omega,by simpa using h2,rng_set h3 (Nat.mod_lt _ (by decide)),by omega,?_,?_⟩,by omega⟩
      · (refine frz1 hS lks nmX (by intro m hm;simp [lkS,addL,delL,Nm.isLoc,hm]) (by exact rfl) ?_ trivial ?_)
        · rfl
        · (repeat' (first | refine fJ ?_ ?_ | exact True.intro);all_goals (try (first | exact kv | (refine kW (ov_of lks) rfl ?_ ?_))))
      · rw [drop_set_lt (by omega)]
        have e:=h5
        rw [drop_getD (l:=v) hi,drop_getD (l:=w) (by omega)] at e
        exact (List.cons.inj e).2
      · rw [val_set_take hi,htw,htp]
        exact sub_step H (H ^ i) _ _ _ x k c _ _ h6 (show _ = x + 4294967296 * _ by omega)
    · repeat refine gN ?_
      have hi : i = y.length + 1:=by omega
      subst hi
      rw [take_all (by omega),take_all (by omega),take_all (by omega),hPv] at h6
      have hc : c = 0:=by
        rcases Nat.eq_zero_or_pos c with g | g
        · exact g
        · have e:=val_lt h3
          rw [h2] at e
          have : H ^ (y.length + 1) ≤ H ^ (y.length + 1) * c:=Nat.le_mul_of_pos_right _ g
          omega
      subst hc
      rw [← padH_of h3 h2 (by omega)]
      (refine fz hS ?_ ?_;all_goals (repeat' (first | refine fJ ?_ ?_ | exact True.intro));all_goals (try (first | exact kv | (refine kW (ov_of lks) rfl ?_ ?_))))
  intro st hst
  refine awp_weak _ hst ?_
  clear hst st
  repeat refine gN ?_
  (refine endP1 ttOk (fl':=[(8,bvl true)]) (.inr rfl) hS lks nmX (by intro m hm;simp [lkS,addL,delL,Nm.isLoc,hm]) ?_ ?_ (by exact rfl) (by exact rfl) (by exact rfl))
  · rfl
  · (repeat' (first | refine fJ ?_ ?_ | exact True.intro);all_goals (try (first | exact kv | (refine kW (ov_of lks) rfl ?_ ?_))))

theorem c_lessF (z : Nm) (pre w post y : List Nat) (q N cm : Nat) (hw : rng H w) (hwl : w.length = y.length + 1) (hy : rng H y) (hyl : y.length < 2 ^ 38) (hq : q < 4294967296) (hN : N = (pre ++ w ++ post).length) (hN2 : N < 2 ^ 40) (hcm : N ≤ cm) (hle : val H w < val H y * q) :
    AProc Tryz.prog 162 [.c (.win z 0 N cm),iv pre.length,us y,uv q] [(z,oi (pre ++ w ++ post))] [(z,oi (pre ++ w ++ post))] (bvl false):=by
  have hlt : val H y * q < H ^ (y.length + 1):=by
    rw [Nat.pow_succ]
    exact Nat.mul_lt_mul'' (val_lt hy) hq
  have hNl : N = pre.length + w.length + post.length:=by rw [hN];simp;omega
  (refine aproc1 (mu:=muF) Tryz.func162 rfl (by decide) rfl (by decide) (Nat.le_of_ble_eq_true rfl) (by simp [AVal.at,AVal.at1,Cell.at]) (by simp [AVal.at,AVal.at1,Cell.at]) (by simp [AVal.at,AVal.at1,Cell.at]) nmX nmX fun S hS=>?_;simp only [List.map_cons,List.map_nil,AVal.map,AVal.map1,Cell.map])
  repeat refine gN ?_
  (refine zw ?_;refine s_made (c_times0 y hy q (y.length + 1) hq (by omega) hlt (by omega)) ?_)
  obtain ⟨P,hP⟩ : ∃ P,P = padH (y.length + 1) (val H y * q):=⟨_,rfl⟩
  have hPl : P.length = y.length + 1:=by rw [hP];exact padH_len hlt
  have hPr : rng H P:=by rw [hP];exact padH_rng _ _
  have hPv : val H P = val H y * q:=by rw [hP];exact padH_val _ _
  rw [← hP]
  have hUP:=U_len P
  refine aw_weak ⟨lk' [(0,.c (.win (.out z) 0 N cm)),(1,iv pre.length),(2,us y),(19,us P)],ov [(.out z,oi (pre ++ w ++ post))] (pushS S)⟩ ?_ ?_
  · (refine fz hS ?_ ?_;all_goals (repeat' (first | refine fJ ?_ ?_ | exact True.intro));all_goals (try (first | exact kv | (refine kW (ov_of lks) rfl ?_ ?_))))
    · omega
    · rw [List.drop_zero,U_take,take_all (by omega)]
  repeat refine gN ?_
  refine awp_rep (ι:=Nat) (fun i=>⟨lk' [(0,.c (.win (.out z) 0 N cm)),(1,iv pre.length),(2,us y),(9,us P),(10,ivl .i64 ((i : Int) - 1))],ov [(.out z,oi (pre ++ w ++ post))] (pushS S)⟩) (fun i=>i ≤ y.length + 1∧P.drop i = w.drop i) (fun i=>i)
    (y.length + 1) ⟨Nat.le_refl _,by rw [List.drop_of_length_le (by omega),List.drop_of_length_le (by omega)]⟩ ?_ ?_
  · (refine fz hS ?_ ?_;all_goals (repeat' (first | refine fJ ?_ ?_ | exact True.intro));all_goals (try (first | exact kv | (refine kW (ov_of lks) rfl ?_ ?_))))
  rintro i ⟨h1,h2⟩
  repeat refine gN ?_
  (refine zw ?_;refine s_cmp (fun g1=>?_) (fun g1=>?_))
  · obtain ⟨j,rfl⟩ : ∃ j,i = j + 1:=⟨i - 1,by omega⟩
    rw [show ((j + 1 : Nat) : Int) - 1 = (j : Int) by omega]
    have hj : j < w.length:=by omega
    have hm:=mid_get (p:=pre) (r:=post) hj
    have hUw:=U_len (pre ++ w ++ post)
    repeat refine gN ?_
    rw [hm]
    (refine zw ?_;refine s_cmp (fun g2=>?_) (fun g2=>?_))
    · repeat refine gN ?_
      exfalso
      have : val H y * q < val H w:=by
        have:=val_top_lt hPr (i:=j) (m:=w) (by omega) (by omega) h2 (by omega)
        rw [hPv] at this;omega
      omega
    repeat refine gN ?_
    rw [hm]
    (refine zw ?_;refine s_cmp (fun g3=>?_) (fun g3=>?_))
    · repeat refine gN ?_
      (refine endP1 ttOk (fl':=[(8,bvl false)]) (.inr rfl) hS lks nmX (by intro m hm;simp [lkS,addL,delL,Nm.isLoc,hm]) ?_ ?_ (by exact rfl) (by exact rfl) (by exact rfl))
      · rfl
      · (repeat' (first | refine fJ ?_ ?_ | exact True.intro);all_goals (try (first | exact kv | (refine kW (ov_of lks) rfl ?_ ?_))))
    · repeat refine gN ?_
      refine ⟨j,?_,⟨by omega,?_⟩,by omega⟩
      · (refine fz hS ?_ ?_;all_goals (repeat' (first | refine fJ ?_ ?_ | exact True.intro));all_goals (try (first | exact kv | (refine kW (ov_of lks) rfl ?_ ?_))))
      · rw [drop_getD (l:=P) (by omega),drop_getD (l:=w) hj,h2,show P.getD j 0 = w.getD j 0 by omega]
  · repeat refine gN ?_
    exfalso
    have hi : i = 0:=by omega
    subst hi
    rw [List.drop_zero,List.drop_zero] at h2
    rw [h2] at hPv;omega
end Go.Proofs

/-
  The reference: long, NatDiv.
-/
namespace Go.Proofs
open Go Go.Abs Go.Nums
attribute [local irreducible] thenA blockA awp aw Stp EndF EndP EndN EndG aOps
set_option linter.unusedSimpArgs false
set_option maxHeartbeats 4000000

theorem parts {u : List Nat} {i m : Nat} (h : i + m + 1 ≤ u.length) : u = u.take i ++ (u.drop i).take (m + 1) ++ u.drop (i + m + 1):=by
  have h1 : u = u.take i ++ u.drop i:=(List.take_append_drop i u).symm
  have h2 : u.drop i = (u.drop i).take (m + 1) ++ u.drop (i + m + 1):=by
    conv=>lhs;rw [← List.take_append_drop (m + 1) (u.drop i)]
    rw [List.drop_drop,Nat.add_assoc]
  rw [List.append_assoc,← h2,← h1]

theorem top_of {V m : Nat} {l : List Nat} (hr : rng H l) (hl : l.length = m + 1) (hv : val H l = V) : H ^ m * l.getD m 0 ≤ V∧V < H ^ m * (l.getD m 0 + 1):=by
  have h:=val_last H hl
  have h2:=val_take_lt hr (i:=m) (by omega)
  rw [hv] at h
  rw [Nat.mul_add]
  omega

theorem guess {W V m t2 t1 vt Q : Nat} (hW : W < H ^ m * (t2 * 4294967296 + t1 + 1)) (hV : H ^ m * vt ≤ V) (hvt : 0 < vt) (hQ : Q * V ≤ W) : Q ≤ (t2 * 4294967296 + t1) / vt:=by
  rw [Nat.le_div_iff_mul_le hvt]
  have h1 : H ^ m * (Q * vt) ≤ W:=by
    have:=Nat.mul_le_mul_left Q hV
    rw [Nat.mul_left_comm] at this
    exact Nat.le_trans this hQ
  have h2 : H ^ m * (Q * vt) < H ^ m * (t2 * 4294967296 + t1 + 1):=Nat.lt_of_le_of_lt h1 hW
  have:=Nat.lt_of_mul_lt_mul_left h2
  omega

theorem scale_lt {b m yt s : Nat} (hb : b < H ^ m * (yt + 1)) (hs : s = 4294967296 / (yt + 1)) (hs0 : 0 < s) : b * s < H ^ (m + 1):=by
  have h1 : b * s < H ^ m * (yt + 1) * s:=Nat.mul_lt_mul_of_pos_right hb hs0
  have h2 : (yt + 1) * s ≤ 4294967296:=by rw [hs];exact Nat.mul_div_le _ _
  have h3 : H ^ m * ((yt + 1) * s) ≤ H ^ m * 4294967296:=Nat.mul_le_mul_left _ h2
  rw [Nat.pow_succ]
  rw [Nat.mul_assoc] at h1
  exact Nat.lt_of_lt_of_le h1 h3

theorem win_top {l : List Nat} {m W : Nat} (hr : rng H l) (hl : m + 2 ≤ l.length) (hv : val H l = W) (hW : W < H ^ (m + 2)) :
    val H (l.take (m + 2)) = W∧val H (l.drop (m + 2)) = 0∧W < H ^ m * (l.getD (m + 1) 0 * 4294967296 + l.getD m 0 + 1):=by
  have h1:=val_split H hl
  rw [hv] at h1
  have h2 : val H (l.drop (m + 2)) = 0:=by
    rcases Nat.eq_zero_or_pos (val H (l.drop (m + 2))) with q | q
    · exact q
    · have : H ^ (m + 2) ≤ H ^ (m + 2) * val H (l.drop (m + 2)):=Nat.le_mul_of_pos_right _ q
      omega
  rw [h2,Nat.mul_zero,Nat.add_zero] at h1
  refine ⟨h1.symm,h2,?_⟩
  have h3:=val_take_succ H l (m + 1)
  have h4:=val_take_succ H l m
  have h5:=val_take_lt hr (i:=m) (by omega)
  rw [h4,Nat.pow_succ,Nat.mul_assoc] at h3
  have h6 : val H (l.take (m + 2)) = val H (l.take m) + H ^ m * l.getD m 0 + H ^ m * (H * l.getD (m + 1) 0):=h3
  rw [show l.getD (m + 1) 0 * 4294967296 = H * l.getD (m + 1) 0 from Nat.mul_comm _ _,Nat.mul_add,Nat.mul_add,Nat.mul_one]
  omega
theorem getD_drop (l : List Nat) (i j : Nat) : (l.drop i).getD j 0 = l.getD (i + j) 0:=by
  rw [List.getD_eq_getElem?_getD,List.getElem?_drop,← List.getD_eq_getElem?_getD]

theorem c_long (a b : Nat) (hb : (digs H b).length ≠ 0) (hab : (digs H b).length ≤ (digs H a).length) (ha : (digs H a).length < 2 ^ 38) : AFun Tryz.prog 142 [us (digs H a),us (digs H b)] (.tup [us (digs H (a / b)),us (digs H (a % b))]):=by
  obtain ⟨m,hm⟩ : ∃ m,(digs H b).length = m + 1:=⟨(digs H b).length - 1,by omega⟩
  obtain ⟨n,hn⟩ : ∃ n,n = (digs H a).length:=⟨_,rfl⟩
  have hyr : (digs H b).getD m 0 < 4294967296:=getH_lt b m
  have hy0 : (digs H b).getD m 0 ≠ 0:=by
    have hne : digs H b ≠ []:=fun q=>by rw [q] at hm;simp at hm
    have:=digs_top hH hne
    rw [getLast_getD hne,hm] at this
    exact this
  obtain ⟨hyl,hyu⟩:=top_of (rng_digs hH b) hm (val_digs hH b)
  obtain ⟨s,hs⟩ : ∃ s,s = 4294967296 / ((digs H b).getD m 0 + 1):=⟨_,rfl⟩
  have hs0 : 0 < s:=by rw [hs];exact Nat.div_pos (by omega) (by omega)
  have hsH : s < 4294967296:=by
    rw [hs];exact Nat.div_lt_self (by decide) (by omega)
  have hVlt:=scale_lt hyu hs hs0
  have hav : a < H ^ n:=by rw [hn];exact digs_lt hH a
  have hAlt : a * s < H ^ (n + 1):=by rw [Nat.pow_succ];exact Nat.mul_lt_mul'' hav hsH
  have hb0 : 0 < b:=by
    rcases Nat.eq_zero_or_pos b with q | q
    · rw [q,digs_zero] at hm;simp at hm
    · exact q
  obtain ⟨A,hA⟩ : ∃ A,A = a * s:=⟨_,rfl⟩
  obtain ⟨Y,hY⟩ : ∃ Y,Y = b * s:=⟨_,rfl⟩
  have hY0 : 0 < Y:=by rw [hY];exact Nat.mul_pos hb0 hs0
  obtain ⟨V,hV⟩ : ∃ V,V = padH (m + 1) Y:=⟨_,rfl⟩
  have hVl : V.length = m + 1:=by rw [hV];exact padH_len (by rw [hY];exact hVlt)
  have hVr : rng H V:=by rw [hV];exact padH_rng _ _
  have hVv : val H V = Y:=by rw [hV];exact padH_val _ _
  obtain ⟨hvl,hvu⟩:=top_of hVr hVl hVv
  have hvt : 0 < V.getD m 0:=by
    rcases Nat.eq_zero_or_pos (V.getD m 0) with q | q
    · rw [q] at hvu
      have h1 : H ^ m * (digs H b).getD m 0 ≤ b * s:=Nat.le_trans hyl (Nat.le_mul_of_pos_right _ hs0)
      have h2 : H ^ m * 1 ≤ H ^ m * (digs H b).getD m 0:=Nat.mul_le_mul_left _ (by omega)
      omega
    · exact q
  have hUb:=U_len (digs H b)
  have hUV:=U_len V
  refine aF (mu:=muF) Tryz.func142 fun S hS=>?_
  have e1 : (((digs H b).length : Int) - 1).toNat = m:=by omega
  repeat refine gN ?_
  rw [e1]
  repeat refine gN ?_
  rw [← hs,← hn]
  (refine zw ?_;refine s_made (c_times0 (digs H a) (rng_digs hH a) s (n + 1) hsH (by omega) (by rw [val_digs hH];exact hAlt) (by omega)) ?_)
  rw [val_digs hH,← hA]
  repeat refine gN ?_
  rw [hm]
  (refine zw ?_;refine s_made (c_times0 (digs H b) (rng_digs hH b) s (m + 1) hsH (by omega) (by rw [val_digs hH];exact hVlt) (by omega)) ?_)
  rw [val_digs hH,← hY,← hV]
  refine aw_weak ⟨lk' [(0,us (digs H a)),(1,us (digs H b)),(6,uv s),(7,.c (.win (.loc 28) 0 (n + 1) (n + 1))),(33,us V)],ov [(.loc 28,oi (padH (n + 1) A))] (pushS S)⟩ ?_ ?_
  · (refine fz hS ?_ ?_;all_goals (repeat' (first | refine fJ ?_ ?_ | exact True.intro));all_goals (try (first | exact kv | (refine kW (ov_of lks) rfl ?_ ?_))))
    · omega
    · rw [List.drop_zero,U_take,take_all (by omega)]
  repeat refine gN ?_
  obtain ⟨K,hK⟩ : ∃ K,n + 1 = K + (m + 1):=⟨n - m,by omega⟩
  refine awp_midB (fun st=>∃ u o : List Nat,Weak st ⟨lk' [(6,uv s),(7,.c (.win (.loc 28) 0 (n + 1) (n + 1))),(9,.c (.win (.loc 40) 0 K K))],ov [(.loc 28,oi u),(.loc 40,oi o)] (pushS S)⟩∧u.length = n + 1∧rng H u∧o.length = K∧rng H o∧val H u = A % Y∧val H o = A / Y) ?_ ?_
  · refine awp_rep3 (fun (k : Nat) (u o : List Nat)=>⟨lk' [(6,uv s),(7,.c (.win (.loc 28) 0 (n + 1) (n + 1))),(8,us V),(9,.c (.win (.loc 40) 0 K K)),(10,ivl .i64 ((k : Int) - 1))],ov [(.loc 28,oi u),(.loc 40,oi o)] (pushS S)⟩)
      (fun k u o=>k ≤ K∧u.length = n + 1∧rng H u∧o.length = K∧rng H o∧val H u + H ^ k * (val H (o.drop k) * Y) = A∧val H (u.drop k) < Y) (fun k _ _=>k)
      K (padH (n + 1) A) (List.replicate K 0) ⟨Nat.le_refl _,padH_len (by rw [hA];exact hAlt),padH_rng _ _,by simp,rng_rep (by decide) _,?_,?_⟩ ?_ ?_
    · rw [padH_val,List.drop_of_length_le (by simp)];simp [val]
    · have h1:=val_split H (l:=padH (n + 1) A) (i:=K) (by rw [padH_len (by rw [hA];exact hAlt)];omega)
      rw [padH_val] at h1
      have h2 : A < H ^ K * Y:=by
        have h3 : a < H ^ K * b:=by
          have h4 : H ^ m * 1 ≤ b:=Nat.le_trans (Nat.mul_le_mul_left _ (by omega)) hyl
          have h5 : H ^ K * (H ^ m * 1) ≤ H ^ K * b:=Nat.mul_le_mul_left _ h4
          rw [Nat.mul_one,← Nat.pow_add,show K + m = n by omega] at h5
          omega
        rw [hA,hY,← Nat.mul_assoc]
        exact Nat.mul_lt_mul_of_pos_right h3 hs0
      have h6 : H ^ K * val H ((padH (n + 1) A).drop K) < H ^ K * Y:=by omega
      exact Nat.lt_of_mul_lt_mul_left h6
    · rw [show (((digs H a).length : Int) - ((digs H b).length : Int) + 1).toNat = K by omega]
      (refine fz hS ?_ ?_;all_goals (repeat' (first | refine fJ ?_ ?_ | exact True.intro));all_goals (try (first | exact kv | (refine kW (ov_of lks) rfl ?_ ?_))))
      exact kO (U_rep _ 0)
    rintro k u o ⟨h1,h2,h3,h4,h5,h6,h7⟩
    have hUu:=U_len u
    have hUo:=U_len o
    repeat refine gN ?_
    (refine zw ?_;refine s_cmp (fun g1=>?_) (fun g1=>?_))
    · obtain ⟨i,rfl⟩ : ∃ i,k = i + 1:=⟨k - 1,by omega⟩
      rw [show ((i + 1 : Nat) : Int) - 1 = (i : Int) by omega]
      have hil : i + m + 2 ≤ u.length:=by omega
      have hdr:=drop_getD (l:=u) (i:=i) (by omega)
      have hvd : val H (u.drop i) = u.getD i 0 + H * val H (u.drop (i + 1)):=by rw [hdr,val_cons]
      have hu0:=getD_lt (b:=H) (by decide) h3 i
      obtain ⟨W,hW⟩ : ∃ W,W = val H (u.drop i):=⟨_,rfl⟩
      have hWY : W < H * Y:=by
        have : H * (val H (u.drop (i + 1)) + 1) ≤ H * Y:=Nat.mul_le_mul_left _ h7
        rw [Nat.mul_add] at this;omega
      have hYl : Y < H ^ (m + 1):=by rw [hY];exact hVlt
      have hWl : W < H ^ (m + 2):=by
        have : H * Y ≤ H * H ^ (m + 1):=Nat.mul_le_mul_left _ (Nat.le_of_lt hYl)
        rw [Nat.mul_comm H (H ^ (m + 1)),← Nat.pow_succ] at this
        exact Nat.lt_of_lt_of_le hWY this
      obtain ⟨p1,p2,p3⟩:=win_top (rng_drop h3 i) (by rw [List.length_drop];omega) hW.symm hWl
      rw [getD_drop,getD_drop] at p3
      have i2 : 0 + (((i + V.length : Nat) : Int) - 1).toNat = i + m:=by omega
      have i3 : ((V.length : Int) - 1).toNat = m:=by omega
      have i1 : i + V.length = i + (m + 1):=by omega
      have b1 : u.getD (i + V.length) 0 < 4294967296:=getD_lt (by decide) h3 _
      have b2 : u.getD (0 + (((i + V.length : Nat) : Int) - 1).toNat) 0 < 4294967296:=getD_lt (by decide) h3 _
      have b3 : V.getD ((V.length : Int) - 1).toNat 0 ≠ 0:=by rw [i3];omega
      obtain ⟨w,hwd⟩ : ∃ w,w = (u.drop i).take (m + 2):=⟨_,rfl⟩
      obtain ⟨post,hpo⟩ : ∃ w,w = u.drop (i + m + 2):=⟨_,rfl⟩
      obtain ⟨pre,hpr⟩ : ∃ w,w = u.take i:=⟨_,rfl⟩
      have hpl : pre.length = i:=by rw [hpr];simp;omega
      have hwl : w.length = V.length + 1:=by rw [hwd,hVl];simp;omega
      have hwr : rng H w:=by rw [hwd];exact rng_take (rng_drop h3 _) _
      have hparts : u = pre ++ w ++ post:=by rw [hpr,hwd,hpo];exact parts (m:=m + 1) (by omega)
      have hpv : val H post = 0:=by rw [hpo,show i + m + 2 = i + (m + 2) by omega,← List.drop_drop];exact p2
      rw [← hwd] at p1
      have hT : ∀ q,Y * q ≤ W→q < 4294967296→AProc Tryz.prog 162 [.c (.win (.loc 28) 0 (n + 1) (n + 1)),iv i,us V,uv q] [(.loc 28,oi u)] [(.loc 28,oi (pre ++ padH (V.length + 1) (W - Y * q) ++ post))] (bvl true):=fun q g1 g2=>by
        have h:=c_lessT (.loc 28) pre w post V q (n + 1) (n + 1) hwr hwl hVr (by omega) g2 (by rw [← hparts];exact h2.symm) (by omega) (Nat.le_refl _) (by rw [hVv,p1];exact g1)
        rw [← hparts,hpl,hVv,p1] at h;exact h
      have hF : ∀ q,W < Y * q→q < 4294967296→AProc Tryz.prog 162 [.c (.win (.loc 28) 0 (n + 1) (n + 1)),iv i,us V,uv q] [(.loc 28,oi u)] [(.loc 28,oi u)] (bvl false):=fun q g1 g2=>by
        have h:=c_lessF (.loc 28) pre w post V q (n + 1) (n + 1) hwr hwl hVr (by omega) g2 (by rw [← hparts];exact h2.symm) (by omega) (Nat.le_refl _) (by rw [hVv,p1];exact g1)
        rw [← hparts,hpl] at h;exact h
      obtain ⟨Q,hQ⟩ : ∃ Q,Q = W / Y:=⟨_,rfl⟩
      have hQ1 : Y * Q ≤ W:=by rw [hQ];exact Nat.mul_div_le _ _
      have hQ2 : ∀ q,Y * q ≤ W→q ≤ Q:=fun q h=>by rw [hQ,Nat.le_div_iff_mul_le hY0,Nat.mul_comm];exact h
      have hQH : Q < 4294967296:=by rw [hQ,Nat.div_lt_iff_lt_mul hY0];exact hWY
      have hQg:=guess p3 hvl hvt (by rw [Nat.mul_comm];exact hQ1)
      repeat refine gN ?_
      rw [i2,i3,i1]
      obtain ⟨g0,hg0⟩ : ∃ g,g = (u.getD (i + (m + 1)) 0 * 4294967296 + u.getD (i + m) 0) / V.getD m 0:=⟨_,rfl⟩
      rw [← hg0] at hQg ⊢
      refine awp_midB (fun st=>Weak st ⟨lk' [(6,uv s),(7,.c (.win (.loc 28) 0 (n + 1) (n + 1))),(8,us V),(9,.c (.win (.loc 40) 0 K K)),(10,iv i),(12,uv Q)],ov [(.loc 28,oi (pre ++ padH (V.length + 1) (W - Y * Q) ++ post)),(.loc 40,oi o)] (pushS S)⟩) ?_ ?_
      · refine awp_rep (ι:=Nat) (fun q=>⟨lk' [(6,uv s),(7,.c (.win (.loc 28) 0 (n + 1) (n + 1))),(8,us V),(9,.c (.win (.loc 40) 0 K K)),(10,iv i),(12,uv q)],ov [(.loc 28,oi u),(.loc 40,oi o)] (pushS S)⟩) (fun q=>Q ≤ q∧q ≤ 4294967295) (fun q=>q) (min g0 4294967295) ⟨by omega,by omega⟩ ?_ ?_
        · (refine fz hS ?_ ?_;all_goals (repeat' (first | refine fJ ?_ ?_ | exact True.intro));all_goals (try (first | exact kv | (refine kW (ov_of lks) rfl ?_ ?_))))
          all_goals exact kN (by split <;> omega)
        rintro q ⟨j1,j2⟩
        repeat refine gN ?_
        by_cases hq : Y * q ≤ W
        · have hqQ : q = Q:=Nat.le_antisymm (hQ2 q hq) j1
          subst hqQ
          (refine zw ?_;refine s_proc (hT q hq hQH) ?_ (by intro p hp;first | (simp only [List.mem_singleton] at hp;subst hp;exact lks) | (simp only [List.mem_cons,List.not_mem_nil,or_false] at hp;rcases hp with rfl | rfl <;> exact lks)))
          repeat refine gN ?_
          (refine fz hS ?_ ?_;all_goals (repeat' (first | refine fJ ?_ ?_ | exact True.intro));all_goals (try (first | exact kv | (refine kW (ov_of lks) rfl ?_ ?_))))
        · have hqQ : q ≠ Q:=fun e=>hq (by rw [e];exact hQ1)
          (refine zw ?_;refine s_proc (hF q (by omega) (by omega)) ?_ (by intro p hp;first | (simp only [List.mem_singleton] at hp;subst hp;exact lks) | (simp only [List.mem_cons,List.not_mem_nil,or_false] at hp;rcases hp with rfl | rfl <;> exact lks)))
          repeat refine gN ?_
          refine ⟨q - 1,?_,⟨by omega,by omega⟩,by omega⟩
          (refine fz hS ?_ ?_;all_goals (repeat' (first | refine fJ ?_ ?_ | exact True.intro));all_goals (try (first | exact kv | (refine kW (ov_of lks) rfl ?_ ?_))))
      intro st hst
      refine awp_weak _ hst ?_
      clear hst st
      obtain ⟨R,hR⟩ : ∃ R,R = W - Y * Q:=⟨_,rfl⟩
      have hRY : R < Y:=by
        have e1:=Nat.div_add_mod W Y
        have e2:=Nat.mod_lt W hY0
        rw [← hQ] at e1;omega
      have hRl : R < H ^ (V.length + 1):=by rw [hVl];exact Nat.lt_trans hRY (Nat.lt_of_lt_of_le hYl (Nat.pow_le_pow_right (by decide) (by omega)))
      have hpadl:=padH_len hRl
      rw [← hR]
      repeat refine gN ?_
      refine ⟨i,pre ++ padH (V.length + 1) R ++ post,o.set i Q,?_,⟨by omega,?_,?_,by simpa using h4,rng_set h5 hQH,?_,?_⟩,by omega⟩
      · (refine fz hS ?_ ?_;all_goals (repeat' (first | refine fJ ?_ ?_ | exact True.intro));all_goals (try (first | exact kv | (refine kW (ov_of lks) rfl ?_ ?_))))
      · rw [List.length_append,List.length_append,hpadl,← hwl,← List.length_append,← List.length_append,← hparts];exact h2
      · exact rng_append.2 ⟨rng_append.2 ⟨by rw [hpr];exact rng_take h3 _,padH_rng _ _⟩,by rw [hpo];exact rng_drop h3 _⟩
      · have e3:=h6
        rw [hparts,val_append,val_append,hpv,Nat.mul_zero,Nat.add_zero,p1,hpl] at e3
        rw [val_append,val_append,hpv,Nat.mul_zero,Nat.add_zero,padH_val,hpl,drop_set_at (by omega),val_cons,← e3]
        have e4 : W = R + Y * Q:=by omega
        rw [e4,Nat.mul_add,Nat.add_mul,Nat.mul_add (H ^ i),Nat.pow_succ,Nat.mul_comm Q Y,Nat.mul_assoc (H ^ i) H,Nat.mul_assoc H]
        omega
      · rw [List.append_assoc,show (pre ++ (padH (V.length + 1) R ++ post)).drop i = padH (V.length + 1) R ++ post by rw [← hpl];simp,val_append,hpv,padH_val];simpa using hRY
    · repeat refine gN ?_
      have hk0 : k = 0:=by omega
      subst hk0
      rw [List.drop_zero,Nat.pow_zero,Nat.one_mul] at h6
      rw [List.drop_zero] at h7
      refine ⟨u,o,?_,h2,h3,h4,h5,?_,?_⟩
      · (refine fz hS ?_ ?_;all_goals (repeat' (first | refine fJ ?_ ?_ | exact True.intro));all_goals (try (first | exact kv | (refine kW (ov_of lks) rfl ?_ ?_))))
      · rw [← h6,Nat.add_mul_mod_self_right,Nat.mod_eq_of_lt h7]
      · rw [← h6,Nat.add_mul_div_right _ _ hY0,Nat.div_eq_of_lt h7,Nat.zero_add]
  rintro st ⟨u,o,hw,h2,h3,h4,h5,h6,h7⟩
  refine awp_weak _ hw ?_
  clear hw st
  have hUu:=U_len u
  have hUo:=U_len o
  have e6 : A % Y = a % b * s:=by rw [hA,hY,Nat.mul_mod_mul_right]
  have e7 : A / Y = a / b:=by rw [hA,hY,Nat.mul_div_mul_right _ _ hs0]
  rw [e6] at h6
  rw [e7] at h7
  have hul : (digs H (val H u)).length ≤ n + 1:=by rw [digs_len hH,← h2];exact val_lt h3
  repeat refine gN ?_
  refine aw_weak ⟨lk' [(6,uv s),(89,us u),(9,.c (.win (.loc 40) 0 K K))],ov [(.loc 40,oi o)] (pushS S)⟩ ?_ ?_
  · (refine fz hS ?_ ?_;all_goals (repeat' (first | refine fJ ?_ ?_ | exact True.intro));all_goals (try (first | exact kv | (refine kW (ov_of lks) rfl ?_ ?_))))
    · omega
    · rw [List.drop_zero,U_take,take_all (by omega)]
  (refine zw ?_;refine s_call (c_low u h3 (by omega)) ?_)
  repeat refine gN ?_
  (refine zw ?_;refine s_call (c_short0 (digs H (val H u)) (rng_digs hH _) (by omega) s hs0 (by omega)) ?_)
  rw [val_digs hH,h6,Nat.mul_div_cancel _ hs0]
  repeat refine gN ?_
  refine aw_weak ⟨lk' [(13,us (digs H (a % b))),(95,us o)],ov [] (pushS S)⟩ ?_ ?_
  · (refine fz hS ?_ ?_;all_goals (repeat' (first | refine fJ ?_ ?_ | exact True.intro));all_goals (try (first | exact kv | (refine kW (ov_of lks) rfl ?_ ?_))))
    · omega
    · rw [List.drop_zero,U_take,take_all (by omega)]
  (refine zw ?_;refine s_call (c_low o h5 (by omega)) ?_)
  rw [h7]
  repeat refine gN ?_
  (refine eF hS ?_ (fl':=[(4,us (digs H (a / b))),(5,us (digs H (a % b)))]);(repeat' (first | refine fJ ?_ ?_ | exact True.intro);all_goals (try (first | exact kv | (refine kW (ov_of lks) rfl ?_ ?_)))))
end Go.Proofs

/-
  The reference: NatDiv; RightInt, Told, the numbers of chapter 16.
-/
namespace Go.Proofs
open Go Go.Abs Go.Nums
attribute [local irreducible] thenA blockA awp aw Stp EndF EndP EndN EndG aOps
set_option linter.unusedSimpArgs false
set_option maxHeartbeats 4000000

theorem c_natdiv (a b : Nat) (hb0 : 0 < b) (ha : (digs B a).length < 2 ^ 36) (hb : (digs B b).length < 2 ^ 36) : AFun Tryz.prog 107 [us (digs B a),us (digs B b)] (.tup [us (digs B (a / b)),us (digs B (a % b))]):=by
  have hla:=digsH_lenE a
  have hlb:=digsH_lenE b
  have hne : (digs H b).length ≠ 0:=fun h=>by have:=(digs_nil hH).1 (List.eq_nil_of_length_eq_zero h);omega
  have hq : (digs H (a / b)).length ≤ (digs H a).length:=len_mono hH (Nat.div_le_self _ _)
  have hr : (digs H (a % b)).length ≤ (digs H b).length:=len_mono hH (Nat.le_of_lt (Nat.mod_lt _ hb0))
  refine aF (mu:=muF) Tryz.func107 fun S hS=>?_
  repeat refine gN ?_
  (refine zw ?_;refine s_call (c_halvesE a (by omega)) ?_)
  repeat refine gN ?_
  (refine zw ?_;refine s_call (c_halvesE b (by omega)) ?_)
  repeat refine gN ?_
  (refine zw ?_;refine s_cmp (fun g1=>?_) (fun g1=>?_))
  · have hlt : a < b:=len_lt hH (by omega)
    rw [Nat.div_eq_of_lt hlt,Nat.mod_eq_of_lt hlt,digs_zero]
    repeat refine gN ?_
    (refine zw ?_;refine s_call (c_nattrimD a (by omega)) ?_)
    repeat refine gN ?_
    (refine eF hS ?_ (fl':=[(4,us []),(5,us (digs B a))]);(repeat' (first | refine fJ ?_ ?_ | exact True.intro);all_goals (try (first | exact kv | (refine kW (ov_of lks) rfl ?_ ?_)))))
  repeat refine gN ?_
  (refine zw ?_;refine s_cmp (fun g2=>?_) (fun g2=>?_))
  · have hb1 : digs H b = [b]:=by
      have h1 : (digs H b).length = 1:=by omega
      have hbl : b < H:=by
        have:=(digs_len hH (n:=b) (k:=1)).1 (by omega);simpa using this
      rw [digs_pos hH (by omega),Nat.mod_eq_of_lt hbl,Nat.div_eq_of_lt hbl,digs_zero]
    have hbl : b < 4294967296:=by
      have:=getH_lt b 0
      rw [hb1] at this;exact this
    have e0 : (digs H b).getD 0 0 = b:=by rw [hb1];rfl
    have hml : a % b < b:=Nat.mod_lt _ hb0
    repeat refine gN ?_
    rw [e0]
    (refine zw ?_;refine s_call (c_short0 (digs H a) (rng_digs hH a) (by omega) b hb0 (by omega)) ?_)
    rw [val_digs hH]
    repeat refine gN ?_
    (refine zw ?_;refine s_call (c_limbs0 (digs H (a / b)) (rng_digs hH _) (by omega)) ?_)
    rw [val_digs hH]
    repeat refine gN ?_
    (refine zw ?_;refine s_call (c_natof (a % b) (show a % b < 18446744073709551616 by omega)) ?_)
    repeat refine gN ?_
    (refine eF hS ?_ (fl':=[(4,us (digs B (a / b))),(5,us (digs B (a % b)))]);(repeat' (first | refine fJ ?_ ?_ | exact True.intro);all_goals (try (first | exact kv | (refine kW (ov_of lks) rfl ?_ ?_)))))
  · repeat refine gN ?_
    (refine zw ?_;refine s_call (c_long a b hne (by omega) (by omega)) ?_)
    repeat refine gN ?_
    (refine zw ?_;refine s_call (c_limbs0 (digs H (a / b)) (rng_digs hH _) (by omega)) ?_)
    repeat refine gN ?_
    (refine zw ?_;refine s_call (c_limbs0 (digs H (a % b)) (rng_digs hH _) (by omega)) ?_)
    rw [val_digs hH,val_digs hH]
    repeat refine gN ?_
    (refine eF hS ?_ (fl':=[(4,us (digs B (a / b))),(5,us (digs B (a % b)))]);(repeat' (first | refine fJ ?_ ?_ | exact True.intro);all_goals (try (first | exact kv | (refine kW (ov_of lks) rfl ?_ ?_)))))

end Go.Proofs

/-
  The kit: mark, LentLimbs, LentInt, KeptLimbs, KeptInt: a list with room behind it that is marked.
-/
namespace Go.Proofs
open Go Go.Abs Go.Nums
attribute [local irreducible] thenA blockA awp aw Stp EndF EndP EndN EndG EndT aOps
set_option linter.unusedSimpArgs false
set_option maxHeartbeats 4000000

end Go.Proofs

/-
  The reference: Floor, of numbers that are not below 0.
-/
namespace Go.Proofs
open Go Go.Abs Go.Nums
attribute [local irreducible] thenA blockA awp aw Stp EndF EndP EndN EndG EndT aOps
set_option linter.unusedSimpArgs false
set_option maxHeartbeats 4000000

theorem ls_one {ops : Array Oper} {fr : Fram} {i0 j : Nat} {oi oj : Oper} (h1 : ops[i0]? = some oi) (h2 : ops[j]? = some oj) (h : LS ops fr oi oj) :
    ∀ k ∈ [j],∀ oi oj,ops[i0]? = some oi→ops[k]? = some oj→LS ops fr oi oj:=by
  intro k hk oi' oj' g1 g2
  simp only [List.mem_singleton] at hk;subst hk
  rw [h1] at g1;rw [h2] at g2
  obtain rfl:=Option.some.inj g1
  obtain rfl:=Option.some.inj g2
  exact h

theorem c_floor (n m e : Nat) (hm0 : 0 < m) (hn : (digs B n).length < 2 ^ 20) (hm : (digs B m).length < 2 ^ 20) (he : e < 2 ^ 20) : AFun Tryz.prog 67 [nu ⟨false,n,e⟩,nu ⟨false,m,0⟩] (.tup [nu ⟨false,n * 2 ^ e / m,0⟩,nu ⟨false,n * 2 ^ e % m,0⟩]):=by
  have hu1:=c_natup n e (by omega) (by omega)
  have hu2:=c_natup m 0 (by omega) (by omega)
  rw [Nat.pow_zero,Nat.mul_one] at hu2
  obtain ⟨a,ha⟩ : ∃ a,a = n * 2 ^ e:=⟨_,rfl⟩
  have hal : (digs B a).length < 2 ^ 36:=by
    have h1:=len_blen' a
    have h2:=blen_shl n e
    rw [← ha] at h2
    have h3 : blen n ≤ 64 * (digs B n).length:=by rw [blen_le,Nat.pow_mul];exact (digs_len hB).1 (Nat.le_refl _)
    omega
  rw [← ha] at hu1 ⊢
  have hd:=c_natdiv a m hm0 hal (by omega)
  refine aF (mu:=muF) Tryz.func67 fun S hS=>?_
  repeat refine gN ?_
  (refine zw ?_;refine s_call (hu1) ?_)
  repeat refine gN ?_
  (refine zw ?_;refine s_call (hu2) ?_)
  repeat refine gN ?_
  (refine zw ?_;refine s_call (hd) ?_)
  repeat refine gN ?_
  refine awp_ls 8 [11] (by decide +kernel) ?_
  repeat refine gN ?_
  refine ⟨ls_one (by exact rfl) (by exact rfl) (ls_of rfl rfl rfl rfl (by decide +kernel) (by decide +kernel) (by exact rfl) (by exact rfl) (by simp)),?_⟩
  repeat refine gN ?_
  (refine eF hS ?_ (fl':=[(4,np ⟨false,a / m,0⟩),(5,np ⟨false,a % m,0⟩)]);(repeat' (first | refine fJ ?_ ?_ | exact True.intro);all_goals (try (first | exact kv | (refine kW (ov_of lks) rfl ?_ ?_)))))
end Go.Proofs

/-
  The reference: Floor of numbers below 0.
-/
namespace Go.Proofs
open Go Go.Abs Go.Nums
attribute [local irreducible] thenA blockA awp aw Stp EndF EndP EndN EndG EndT aOps
set_option linter.unusedSimpArgs false
set_option maxHeartbeats 4000000

def flQ (n m : Nat) : Nat:=if n % m = 0 then n / m else n / m + 1
def flR (n m : Nat) : Nat:=if n % m = 0 then 0 else m - n % m
theorem flR_mod {n m : Nat} (hm : 0 < m) : ((flR n m : Nat) : Int) = (-(n : Int)) % (m : Int):=by
  have h1:=Nat.mod_lt n hm
  have h2:=Nat.div_add_mod n m
  unfold flR
  split
  · rename_i h
    have e : (-(n : Int)) = (m : Int) * (-((n / m : Nat) : Int)):=by
      rw [Int.mul_neg,← Int.natCast_mul]
      omega
    rw [e,Int.mul_emod_right];rfl
  · rename_i h
    have e : (-(n : Int)) = ((m - n % m : Nat) : Int) + (m : Int) * (-((n / m : Nat) : Int) - 1):=by
      rw [Int.mul_sub,Int.mul_neg,← Int.natCast_mul]
      omega
    rw [e,Int.add_mul_emod_self_left,Int.emod_eq_of_lt (by omega) (by omega)]

theorem c_floorN (n m : Nat) (hm0 : 0 < m) (hn : (digs B n).length < 2 ^ 20) (hm : (digs B m).length < 2 ^ 20) : AFun Tryz.prog 67 [nu ⟨true,n,0⟩,nu ⟨false,m,0⟩] (.tup [nu ⟨true,flQ n m,0⟩,nu ⟨false,flR n m,0⟩]):=by
  have hu1:=c_natup n 0 (by omega) (by omega)
  have hu2:=c_natup m 0 (by omega) (by omega)
  rw [Nat.pow_zero,Nat.mul_one] at hu1 hu2
  have hd:=c_natdiv n m hm0 (by omega) (by omega)
  have hr:=Nat.mod_lt n hm0
  have hrl : (digs B (n % m)).length < 2 ^ 20:=Nat.lt_of_le_of_lt (len_mono hB (Nat.le_of_lt hr)) hm
  have hql : (digs B (n / m)).length < 2 ^ 20:=Nat.lt_of_le_of_lt (len_mono hB (Nat.div_le_self n m)) hn
  by_cases hz : n % m = 0
  · have e1 : flQ n m = n / m:=if_pos hz
    have e2 : flR n m = 0:=if_pos hz
    rw [e1,e2]
    refine aF (mu:=muF) Tryz.func67 fun S hS=>?_
    repeat refine gN ?_
    (refine zw ?_;refine s_call (hu1) ?_)
    repeat refine gN ?_
    (refine zw ?_;refine s_call (hu2) ?_)
    repeat refine gN ?_
    (refine zw ?_;refine s_call (hd) ?_)
    repeat refine gN ?_
    try refine stp_gT (by exact rfl) (by exact rfl) ?_
    (refine zw ?_;refine s_call (c_natbits (n % m) (by omega)) ?_)
    repeat refine gN ?_
    refine s_cmp (fun g=>?_) (fun g=>?_)
    · rw [hz] at g
      have:=(blen_le 0 0).2 (by decide)
      omega
    repeat refine gN ?_
    rw [hz]
    refine awp_ls 8 [11] (by decide +kernel) ?_
    repeat refine gN ?_
    refine ⟨ls_one (by exact rfl) (by exact rfl) (ls_of rfl rfl rfl rfl (by decide +kernel) (by decide +kernel) (by exact rfl) (by exact rfl) (by simp)),?_⟩
    repeat refine gN ?_
    (refine eF hS ?_ (fl':=[(4,np ⟨true,n / m,0⟩),(5,np ⟨false,0,0⟩)]);(repeat' (first | refine fJ ?_ ?_ | exact True.intro);all_goals (try (first | exact kv | (refine kW (ov_of lks) rfl ?_ ?_)))))
  · have e1 : flQ n m = n / m + 1:=if_neg hz
    have e2 : flR n m = m - n % m:=if_neg hz
    rw [e1,e2]
    have hb:=blen_pos hz
    have ho:=c_natof 1 (by decide)
    have ha:=c_natadd (n / m) 1 (by omega) (by rw [digs_one];decide)
    have hs:=c_natsub m (n % m) (by omega) (by omega)
    refine aF (mu:=muF) Tryz.func67 fun S hS=>?_
    repeat refine gN ?_
    (refine zw ?_;refine s_call (hu1) ?_)
    repeat refine gN ?_
    (refine zw ?_;refine s_call (hu2) ?_)
    repeat refine gN ?_
    (refine zw ?_;refine s_call (hd) ?_)
    repeat refine gN ?_
    try refine stp_gT (by exact rfl) (by exact rfl) ?_
    (refine zw ?_;refine s_call (c_natbits (n % m) (by omega)) ?_)
    repeat refine gN ?_
    refine s_cmp (fun g=>?_) (fun g=>?_)
    rotate_left
    · omega
    repeat refine gN ?_
    (refine zw ?_;refine s_call (ho) ?_)
    repeat refine gN ?_
    (refine zw ?_;refine s_call (ha) ?_)
    repeat refine gN ?_
    (refine zw ?_;refine s_call (hs) ?_)
    repeat refine gN ?_
    refine awp_ls 8 [11] (by decide +kernel) ?_
    repeat refine gN ?_
    refine ⟨ls_one (by exact rfl) (by exact rfl) (ls_of rfl rfl rfl rfl (by decide +kernel) (by decide +kernel) (by exact rfl) (by exact rfl) (by simp)),?_⟩
    repeat refine gN ?_
    (refine eF hS ?_ (fl':=[(4,np ⟨true,n / m + 1,0⟩),(5,np ⟨false,m - n % m,0⟩)]);(repeat' (first | refine fJ ?_ ?_ | exact True.intro);all_goals (try (first | exact kv | (refine kW (ov_of lks) rfl ?_ ?_)))))

theorem c_floorZ (s : Bool) (n m : Nat) (hm0 : 0 < m) (hn : (digs B n).length < 2 ^ 20) (hm : (digs B m).length < 2 ^ 20) : ∃ q : Nu,AFun Tryz.prog 67 [nu ⟨s,n,0⟩,nu ⟨false,m,0⟩] (.tup [nu q,nu ⟨false,(sg s n % (m : Int)).toNat,0⟩]):=by
  cases s with
  | false =>
    have h:=c_floor n m 0 hm0 hn hm (by decide)
    rw [Nat.pow_zero,Nat.mul_one] at h
    refine ⟨⟨false,n / m,0⟩,?_⟩
    have e : (sg false n % (m : Int)).toNat = n % m:=by simp [sg];omega
    rw [e]
    exact h
  | true =>
    have h:=c_floorN n m hm0 hn hm
    refine ⟨⟨true,flQ n m,0⟩,?_⟩
    have e : (sg true n % (m : Int)).toNat = flR n m:=by
      rw [show sg true n = -(n : Int) from rfl,← flR_mod hm0];omega
    rw [e]
    exact h
end Go.Proofs

/-
  Powers modulo the rule's polynomial tell the row's numbers.
-/
namespace Go.Proofs
open Go Go.Abs Go.Nums

def rep (a : Nat→Int) (m : Int) (p : List Int) (e : Nat) : Prop:=∀ k,eqm m (tells a p p.length k) (a (e + k))
theorem rep_one (a : Nat→Int) (m : Int) : rep a m [1] 0:=fun k=>by
  show sumN _ 1 % m = _ % m
  simp [sumN]
theorem tells_take {a : Nat→Int} {p : List Int} {n k : Nat} (h : n ≤ p.length) : tells a (p.take n) (p.take n).length k = tells a p n k:=by
  rw [List.length_take,Nat.min_eq_left h]
  refine sumN_congr fun i hi=>?_
  rw [List.getD_eq_getElem?_getD,List.getElem?_take_of_lt hi,← List.getD_eq_getElem?_getD]
theorem rep_mod {a : Nat→Int} {m : Int} {r p : List Int} {e : Nat} (ha : byRule r a) (h : rep a m p e) : rep a m ((modF r m p).take (min r.length p.length)) e:=fun k=>by
  refine Eq.trans ?_ (h k)
  rcases Nat.le_total p.length r.length with h1 | h1
  · rw [modF,show p.length - r.length = 0 by omega,modTop,Nat.min_eq_right h1,List.take_length]
  · rw [Nat.min_eq_left h1,tells_take (by rw [modF,modTop_len];exact h1)]
    have:=modTop_tells (m:=m) ha (k:=k) (p.length - r.length) (p:=p) (by omega)
    rw [show r.length + (p.length - r.length) = p.length by omega] at this
    exact this
theorem rep_shift {a : Nat→Int} {m : Int} {p : List Int} {e : Nat} (h : rep a m p e) : rep a m (0 :: p) (e + 1):=fun k=>by
  have key : ∀ n,tells a (0 :: p) (n + 1) k = tells a p n (k + 1):=by
    intro n
    induction n with
    | zero=>simp [sumN]
    | succ n ih =>
      show sumN (fun i=>(0 :: p).getD i 0 * a (i + k)) (n + 1) + (0 :: p).getD (n + 1) 0 * a (n + 1 + k) = sumN (fun i=>p.getD i 0 * a (i + (k + 1))) n + p.getD n 0 * a (n + (k + 1))
      rw [show sumN (fun i=>(0 :: p).getD i 0 * a (i + k)) (n + 1) = _ from ih,List.getD_cons_succ,show n + 1 + k = n + (k + 1) by omega]
  rw [List.length_cons,key,show e + 1 + k = e + (k + 1) by omega]
  exact h (k + 1)
theorem rep_prod {a : Nat→Int} {m : Int} {p q o : List Int} {d e : Nat} (hp : rep a m p d) (hq : rep a m q e) (hl : p.length + q.length ≤ o.length + 1) (ho : ∀ t,t < o.length→eqm m (o.getD t 0) (conv p q t)) : rep a m o (d + e):=fun k=>by
  have e1 : eqm m (tells a o o.length k) (sumN (fun t=>conv p q t * a (t + k)) o.length):=eqm_sum fun t ht=>eqm_mul (ho t ht) rfl
  refine e1.trans ?_
  rw [conv_tells a p q o.length k hl]
  have e2 : eqm m (sumN (fun i=>p.getD i 0 * tells a q q.length (i + k)) p.length) (tells a p p.length (e + k)):=eqm_sum fun i _=>by
    refine eqm_mul rfl ?_
    rw [show i + (e + k) = e + (i + k) by omega]
    exact hq (i + k)
  refine e2.trans ?_
  rw [show d + e + k = d + (e + k) by omega]
  exact hp (e + k)
theorem rep_first {b f : List Int} {m : Int} {p : List Int} {e : Nat} (h : rep (rowA b f) m p e) (hl : p.length ≤ f.length) : eqm m (sumN (fun i=>p.getD i 0 * f.getD i 0) p.length) (rowA b f e):=by
  have:=h 0
  refine Eq.trans ?_ this
  rw [tells,sumN_congr (d:=fun i=>p.getD i 0 * rowA b f (i + 0)) fun i hi=>by rw [Nat.add_zero,rowA_first b f (by omega)]]

theorem rowA_congr {b c f : List Int} {m : Int} (hb : f.length = b.length) (hl : b.length = c.length) (h : ∀ i,eqm m (b.getD i 0) (c.getD i 0)) : ∀ n,eqm m (rowA b f n) (rowA c f n):=by
  intro n
  induction n using Nat.strongRecOn with
  | _ n ih =>
    by_cases hn : n < f.length
    · rw [rowA_first b f hn,rowA_first c f hn]
    · rw [rowA_rule hb n (by omega),rowA_rule (by omega) n (by omega),← hl]
      exact eqm_sum fun i hi=>eqm_mul (h i) (ih _ (by omega))
theorem map_mod_eqm (b : List Int) (m : Int) (i : Nat) : eqm m (b.getD i 0) ((b.map (· % m)).getD i 0):=by
  rw [List.getD_eq_getElem?_getD,List.getD_eq_getElem?_getD,List.getElem?_map]
  cases b[i]? with
  | none=>rfl
  | some x=>exact (Int.emod_emod ..).symm
end Go.Proofs

/-
  What Mod tells is the row's number, modulo m.
-/
namespace Go.Proofs
open Go Go.Abs Go.Nums

theorem prodIn_get {p q o : List Int} {i : Nat} : ∀ k t,i + k ≤ o.length→(prodIn p q i k o).getD t 0 = o.getD t 0 + (if i ≤ t∧t - i < k then p.getD i 0 * q.getD (t - i) 0 else 0)
  | 0,t,_=>by rw [if_neg (by omega),Int.add_zero];rfl
  | k + 1,t,h=>by
    have ih:=prodIn_get (p:=p) (q:=q) (o:=o) (i:=i) k
    rw [prodIn,getD_set (by rw [prodIn_len];omega)]
    by_cases e : t = i + k
    · subst e
      rw [if_pos rfl,ih _ (by omega),if_neg (by omega),if_pos (by omega),show i + k - i = k by omega];omega
    · rw [if_neg e,ih _ (by omega)]
      by_cases e2 : i ≤ t∧t - i < k
      · rw [if_pos e2,if_pos (by omega)]
      · rw [if_neg e2,if_neg (by omega)]
theorem prodRow_get {p q o : List Int} : ∀ i t,i + q.length ≤ o.length + 1→(prodRow p q i o).getD t 0 = o.getD t 0 + sumN (fun i=>if i ≤ t∧t - i < q.length then p.getD i 0 * q.getD (t - i) 0 else 0) i
  | 0,t,_=>by rw [prodRow,sumN,Int.add_zero]
  | i + 1,t,h=>by
    rw [prodRow,prodIn_get _ _ (by rw [prodRow_len];omega),prodRow_get i t (by omega),sumN,Int.add_assoc]
theorem prodF_conv {m : Int} {p q : List Int} {t : Nat} : eqm m ((prodF m p q).getD t 0) (conv p q t):=by
  have h : (prodRow p q p.length (List.replicate (p.length + q.length) 0)).getD t 0 = conv p q t:=by
    rw [prodRow_get _ _ (by rw [List.length_replicate];omega),conv]
    have : (List.replicate (p.length + q.length) (0 : Int)).getD t 0 = 0:=by
      rw [List.getD_eq_getElem?_getD,List.getElem?_replicate]
      split <;> rfl
    rw [this,Int.zero_add]
  rw [← h]
  exact (map_mod_eqm _ m t).symm
theorem rep_sq {a : Nat→Int} {m : Int} {r w : List Int} {d : Nat} (ha : byRule r a) (h : rep a m w d) : rep a m (modSq r m w) (d + d):=by
  have:=rep_mod ha (rep_prod h h (o:=prodF m w w) (by rw [prodF_len];omega) fun t _=>prodF_conv)
  rw [prodF_len] at this
  exact this
theorem rep_up {a : Nat→Int} {m : Int} {r w : List Int} {d : Nat} (ha : byRule r a) (h : rep a m w d) : rep a m (modUp r m w) (d + 1):=rep_mod ha (rep_shift h)
theorem rep_pow {a : Nat→Int} {m : Int} {r : List Int} {e : Nat} (ha : byRule r a) : ∀ (k : Nat) {w : List Int},rep a m w (e / 2 ^ k)→rep a m (modPow r m e k w) e
  | 0,w,h=>by rw [Nat.pow_zero,Nat.div_one] at h;exact h
  | k + 1,w,h=>by
    rw [modPow]
    have e1 : e / 2 ^ (k + 1) = e / 2 ^ k / 2:=by rw [Nat.pow_succ,Nat.div_div_eq_div_mul]
    rw [e1] at h
    have hs:=rep_sq ha h
    split
    · rename_i hb
      refine rep_pow ha k ?_
      have:=rep_up ha hs
      rw [show e / 2 ^ k / 2 + e / 2 ^ k / 2 + 1 = e / 2 ^ k by omega] at this
      exact this
    · rename_i hb
      refine rep_pow ha k ?_
      rw [show e / 2 ^ k / 2 + e / 2 ^ k / 2 = e / 2 ^ k by omega] at hs
      exact hs
theorem dotP_sum (w f : List Int) : ∀ i,dotP w f i = sumN (fun j=>w.getD j 0 * f.getD j 0) i
  | 0=>rfl
  | i + 1=>by rw [dotP,dotP_sum w f i];rfl
theorem modSq_le (r : List Int) (m : Int) (w : List Int) : (modSq r m w).length ≤ r.length:=by rw [modSq,List.length_take];omega
theorem modUp_le (r : List Int) (m : Int) (w : List Int) : (modUp r m w).length ≤ r.length:=by rw [modUp,List.length_take];omega
theorem modPow_le {r : List Int} {m : Int} {e : Nat} : ∀ (k : Nat) {w : List Int},w.length ≤ r.length→(modPow r m e k w).length ≤ r.length
  | 0,w,h=>h
  | k + 1,w,h=>by
    rw [modPow]
    split
    · exact modPow_le k (modUp_le r m _)
    · exact modPow_le k (modSq_le r m _)
theorem modR_row {fs bs : List Int} {m : Int} {e bits : Nat} (hL : fs.length = bs.length) (he : e < 2 ^ bits) : modR fs bs m e bits = rowA bs fs e % m:=by
  obtain ⟨r,hr⟩ : ∃ r,r = bs.map (· % m):=⟨_,rfl⟩
  have hrl : r.length = bs.length:=by rw [hr,List.length_map]
  have ha : byRule r (rowA r fs):=rowA_rule (by omega)
  have h0 : rep (rowA r fs) m ((modF r m [1]).take (min r.length 1)) (e / 2 ^ bits):=by
    rw [Nat.div_eq_of_lt he]
    exact rep_mod ha (rep_one _ m)
  have h1:=rep_pow ha bits h0
  have hl : (modPow r m e bits ((modF r m [1]).take (min r.length 1))).length ≤ fs.length:=by
    rw [hL,← hrl]
    exact modPow_le bits (by rw [List.length_take];omega)
  have h2:=rep_first h1 hl
  have h3:=rowA_congr (m:=m) hL hrl.symm (fun i=>by rw [hr];exact map_mod_eqm bs m i) e
  unfold modR
  simp only [← hr]
  rw [dotP_sum]
  exact h2.trans h3.symm
end Go.Proofs

/-
  Rows by short rules of small numbers: how great their numbers are; so none of them is too long.
-/
namespace Go.Proofs
open Go Go.Abs Go.Nums

theorem rowA_next (b l : List Int) : rowA b l l.length = dotR b l:=by
  rw [← rowA_get b l (k:=1) (by omega)]
  show (l ++ [dotR b l]).getD l.length 0 = _
  rw [List.getD_eq_getElem?_getD,List.getElem?_append_right (by omega),Nat.sub_self];rfl
theorem rowA_snoc (b l : List Int) (n : Nat) : rowA b (l ++ [dotR b l]) n = rowA b l n:=by
  have e : exl b (n + 1) (l ++ [dotR b l]) = exl b (n + 2) l:=rfl
  rw [rowA,e,rowA_get b l (by omega)]
theorem extN_some {b : List Int} : ∀ (k : Nat) (l : List Int),(∀ n,l.length ≤ n→n < l.length + k→blen (rowA b l n).natAbs ≤ 262144)→extN b k l = some (exl b k l)
  | 0,l,_=>rfl
  | k + 1,l,h=>by
    have h0:=h l.length (Nat.le_refl _) (by omega)
    rw [rowA_next] at h0
    rw [extN,if_neg (by omega),extN_some k (l ++ [dotR b l]) fun n h1 h2=>by
      rw [rowA_snoc]
      simp only [List.length_append,List.length_cons,List.length_nil] at h1 h2
      exact h n (by omega) (by omega)]
    rfl

theorem sumN_bound {c : Nat→Int} {M : Nat} : ∀ n,(∀ i,i < n→(c i).natAbs ≤ M)→(sumN c n).natAbs ≤ n * M
  | 0,_=>by simp [sumN]
  | n + 1,h=>by
    have h1:=sumN_bound n fun i hi=>h i (by omega)
    have h2:=h n (by omega)
    have h3:=Int.natAbs_add_le (sumN c n) (c n)
    rw [sumN,Nat.succ_mul]
    omega
def smallL (l : List Int) : Prop:=l.length ≤ 5∧∀ x ∈ l,x.natAbs ≤ 1000
theorem smallL_get {l : List Int} (h : smallL l) (i : Nat) : (l.getD i 0).natAbs ≤ 1000:=by
  rw [List.getD_eq_getElem?_getD]
  cases e : l[i]? with
  | none=>simp
  | some x=>exact h.2 x (List.mem_of_getElem? e)
theorem rowA_bound {b f : List Int} (hb : smallL b) (hf : smallL f) (hl : f.length = b.length) : ∀ n,(rowA b f n).natAbs ≤ 1000 * 5000 ^ n:=by
  intro n
  induction n using Nat.strongRecOn with
  | ind n ih =>
    by_cases h : n < f.length
    · rw [rowA_first b f h]
      have:=smallL_get hf n
      have h1 : 1 ≤ 5000 ^ n:=Nat.pow_pos (by decide)
      exact Nat.le_trans this (Nat.le_mul_of_pos_right _ h1)
    · rw [rowA_rule hl n (by omega)]
      by_cases h0 : b.length = 0
      · rw [h0];simp [sumN]
      obtain ⟨m,rfl⟩ : ∃ m,n = m + 1:=⟨n - 1,by omega⟩
      have hs:=sumN_bound (c:=fun i=>b.getD i 0 * rowA b f (m + 1 - 1 - i)) (M:=1000 * (1000 * 5000 ^ m)) b.length fun i hi=>by
        rw [Int.natAbs_mul]
        have h1:=smallL_get hb i
        have h2:=ih (m + 1 - 1 - i) (by omega)
        have h3 : 5000 ^ (m + 1 - 1 - i) ≤ 5000 ^ m:=Nat.pow_le_pow_right (by decide) (by omega)
        exact Nat.mul_le_mul h1 (Nat.le_trans h2 (Nat.mul_le_mul_left _ h3))
      refine Nat.le_trans hs ?_
      have h5:=Nat.mul_le_mul_right (1000 * (1000 * 5000 ^ m)) hb.1
      rw [Nat.pow_succ]
      omega
theorem rowA_blen {b f : List Int} (hb : smallL b) (hf : smallL f) (hl : f.length = b.length) {n : Nat} (hn : n ≤ 160) : blen (rowA b f n).natAbs ≤ 2100:=by
  rw [blen_le]
  have h1:=rowA_bound hb hf hl n
  have h2 : 1000 * 5000 ^ n ≤ 1000 * 5000 ^ 160:=Nat.mul_le_mul_left _ (Nat.pow_le_pow_right (by decide) hn)
  have h3 : 1000 * 5000 ^ 160 < 2 ^ 2100:=by decide +kernel
  omega
theorem extN_small {b f : List Int} (hb : smallL b) (hf : smallL f) (hl : f.length = b.length) {n : Nat} (hn : n ≤ 160) : extN b (n + 1 - f.length) f = some (exl b (n + 1 - f.length) f)∧(exl b (n + 1 - f.length) f).getD n 0 = rowA b f n:=by
  refine ⟨extN_some _ _ fun j h1 h2=>?_,rowA_get b f (by omega)⟩
  have:=rowA_blen hb hf hl (n:=j) (by omega)
  omega
end Go.Proofs

/-
  The laws of recur: lists of small numbers, the modulus.
-/
-- kv2
namespace Go.Proofs
open Go Go.Abs Go.Nums
attribute [local irreducible] thenA blockA awp aw Stp EndF EndP EndN EndG aOps aOpsM scopeA
set_option linter.unusedSimpArgs false
set_option linter.unusedVariables false
set_option maxHeartbeats 4000000

def rowF (l : List Int) (n : Nat) : List Int:=(l.take n).map (·.tmod 1001)
theorem rowF_len (l : List Int) (n : Nat) : (rowF l n).length = min n l.length:=by rw [rowF,List.length_map,List.length_take]
theorem tmod_small (x : Int) : (x.tmod 1001).natAbs ≤ 1000:=by
  have h1:=Int.tmod_lt_of_pos x (show (0 : Int) < 1001 by decide)
  have h2:=Int.lt_tmod_of_pos x (show (0 : Int) < 1001 by decide)
  omega
theorem rowF_small (l : List Int) {n : Nat} (h : n ≤ 5) : smallL (rowF l n):=⟨by rw [rowF_len];omega,fun x hx=>by
  obtain ⟨y,-,rfl⟩:=List.mem_map.1 hx
  exact tmod_small y⟩
theorem rowF_snoc {l : List Int} {i : Nat} {x : Int} (h : l[i]? = some x) : rowF l (i + 1) = rowF l i ++ [x.tmod 1001]:=by
  rw [rowF,List.take_add_one,h,Option.toList_some,List.map_append,List.map_singleton];rfl
theorem rowF_all {l : List Int} {i n : Nat} (h1 : i ≤ n) (h2 : i = n ∨ l.length ≤ i) : rowF l i = rowF l n:=by
  rcases h2 with rfl | h2
  · rfl
  · rw [rowF,rowF,List.take_of_length_le h2,List.take_of_length_le (by omega)]

theorem c_row (l : List Int) (n : Nat) (hl : l.length < 2 ^ 63) (hn : n < 2 ^ 40) (hr : ∀ x ∈ l,-9223372036854775808 ≤ x∧x < 9223372036854775808) :
    AFun Tryz.prog 32 [li l,iv n,ivl .i64 1000] (li (rowF l n)):=by
  refine aF (mu:=muF) Tryz.func32 fun S hS=>?_
  repeat refine gN ?_
  refine awp_rep (fun i : Nat=>⟨lk' [(0,li l),(1,iv n),(2,ivl .i64 1000),(7,.accv (.loc 31) i),(8,iv i)],ov [(.loc 31,.accI 2 .i64 (rowF l i))] (pushS S)⟩) (fun i=>i ≤ n∧i ≤ l.length) (fun i=>n + 1 - i) 0 ⟨Nat.zero_le _,Nat.zero_le _⟩ ?_ ?_
  · (refine fz hS ?_ ?_;all_goals (repeat' (first | refine fJ ?_ ?_ | exact True.intro));all_goals (try (first | exact kv | exact kQ | exact kQc | exact kIc | exact kFn0 | exact kOac | (refine kW (ov_of lks) rfl ?_ ?_))))
    · exact ⟨.inr ⟨fun _ h=>(by cases (show none = some _ from h)),_,_,rfl⟩,trivial⟩
    · exact .nilA (ov_of rfl)
  rintro i ⟨hi,hi2⟩
  have hL : (rowF l i).length = i:=by rw [rowF_len];omega
  repeat refine gN ?_
  (refine zw ?_;refine s_cmp (fun g=>?_) (fun g=>?_))
  · repeat refine gN ?_
    (refine zw ?_;refine s_cmp (fun g2=>?_) (fun g2=>?_))
    · obtain ⟨x,hx⟩ : ∃ x,l[i]? = some x:=⟨_,List.getElem?_eq_getElem (by omega)⟩
      have hxr:=hr x (List.mem_of_getElem? hx)
      have hxD : l.getD i 0 = x:=by rw [List.getD_eq_getElem?_getD,hx];rfl
      repeat refine gN ?_
      rw [show (i : Int).toNat = i by omega,hxD]
      refine zw1 (stp_remI ?_ (h:=by decide))
      repeat refine gN ?_
      refine zw1 (s_app8 ttOk (Y:=[x.tmod 1001]) ?_ ?_ ?_ (hn:=hL))
      · exact srcE_win (L:=[x.tmod 1001]) lks (by simp)
      · rw [hL];simp;omega
      repeat refine gN ?_
      refine ⟨i + 1,?_,by omega,by omega⟩
      rw [rowF_snoc hx]
      (refine fz hS ?_ ?_;all_goals (repeat' (first | refine fJ ?_ ?_ | exact True.intro));all_goals (try (first | exact kv | exact kQ | exact kQc | exact kIc | exact kFn0 | exact kOac | (refine kW (ov_of lks) rfl ?_ ?_))))
    · repeat refine gN ?_
      rw [rowF_all (n:=n) hi (by omega)]
      (refine eF hS ?_ (fl':=[(6,li (rowF l n))]);(repeat' (first | refine fJ ?_ ?_ | exact True.intro);all_goals (try (first | exact kv | exact kQ | exact kQc | exact kIc | exact kFn0 | exact kOac | (refine kW (ov_of lks) rfl ?_ ?_)))))
      exact .accI (ov_of lks) rfl
  · repeat refine gN ?_
    rw [rowF_all (n:=n) hi (by omega)]
    (refine eF hS ?_ (fl':=[(6,li (rowF l n))]);(repeat' (first | refine fJ ?_ ?_ | exact True.intro);all_goals (try (first | exact kv | exact kQ | exact kQc | exact kIc | exact kFn0 | exact kOac | (refine kW (ov_of lks) rfl ?_ ?_)))))
    exact .accI (ov_of lks) rfl

theorem min35_nat (a b : Nat) : (if (5 : Int) < (if (b : Int) < (a : Int) then (b : Int) else (a : Int)) then (5 : Int) else (if (b : Int) < (a : Int) then (b : Int) else (a : Int))) = ((min a (min b 5) : Nat) : Int):=by
  split <;> split <;> omega

theorem c_lists (a b : List Int) (n : Nat) (hn : n = min a.length (min b.length 5)) (ha : a.length < 2 ^ 63) (hb : b.length < 2 ^ 63) (hra : ∀ x ∈ a,-9223372036854775808 ≤ x∧x < 9223372036854775808) (hrb : ∀ x ∈ b,-9223372036854775808 ≤ x∧x < 9223372036854775808) :
    AFun Tryz.prog 19 [li a,li b] (.tup [zsq (rowF a n),zsq (rowF b n)]):=by
  have sm : ∀ l : List Int,(rowF l n).length < 2 ^ 40∧∀ x ∈ rowF l n,-4611686018427387904 < x∧x < 4611686018427387904:=fun l=>by
    have h:=rowF_small l (n:=n) (by omega)
    refine ⟨by have:=h.1;omega,fun x hx=>?_⟩
    have:=h.2 x hx
    omega
  refine aF (mu:=muF) Tryz.func19 fun S hS=>?_
  repeat refine gN ?_
  rw [min35_nat,← hn]
  repeat refine gN ?_
  (refine zw ?_;refine s_call (c_row a n ha (by omega) hra) ?_)
  repeat refine gN ?_
  (refine zw ?_;refine s_call (c_lawsmall (rowF a n) (sm a).1 (sm a).2) ?_)
  repeat refine gN ?_
  (refine zw ?_;refine s_call (c_row b n hb (by omega) hrb) ?_)
  repeat refine gN ?_
  (refine zw ?_;refine s_call (c_lawsmall (rowF b n) (sm b).1 (sm b).2) ?_)
  repeat refine gN ?_
  (refine eF hS ?_ (fl':=[(4,zsq (rowF a n)),(5,zsq (rowF b n))]);(repeat' (first | refine fJ ?_ ?_ | exact True.intro);all_goals (try (first | exact kv | exact kQ | exact kQc | exact kIc | exact kFn0 | exact kOac | (refine kW (ov_of lks) rfl ?_ ?_)))))

theorem c_modulus (s : Bool) (l : List Nat) (hr : rng B l) (hl : l.length < 2 ^ 63) : AFun Tryz.prog 21 [wi s l] (wi false (digs B (atl (val B (l.take 3))))):=by
  refine aF (mu:=muF) Tryz.func21 fun S hS=>?_
  repeat refine gN ?_
  (refine zw ?_;refine s_call (c_above s l 3 hr hl (by decide)) ?_)
  repeat refine gN ?_
  (refine eF hS ?_ (fl':=[(2,.c (.pim [.sc (.bool false),.ints .u64 (U (digs B (atl (val B (l.take 3)))))]))]);(repeat' (first | refine fJ ?_ ?_ | exact True.intro);all_goals (try (first | exact kv | exact kQ | exact kQc | exact kIc | exact kFn0 | exact kOac | (refine kW (ov_of lks) rfl ?_ ?_)))))

theorem c_lawleft (z : Int) (m : Nat) (hm0 : 0 < m) (hz : (digs B z.natAbs).length < 2 ^ 20) (hm : (digs B m).length < 2 ^ 20) : AFun Tryz.prog 24 [wz z,wi false (digs B m)] (nu ⟨false,(z % (m : Int)).toNat,0⟩):=by
  have h1:=c_numint (decide (z < 0)) (digs B z.natAbs) (rng_digs hB _) (by omega)
  have h2:=c_numint false (digs B m) (rng_digs hB _) (by omega)
  rw [val_digs hB] at h1 h2
  obtain ⟨q,hq⟩:=c_floorZ (decide (z < 0)) z.natAbs m hm0 hz hm
  have e : sg (decide (z < 0)) z.natAbs = z:=by
    unfold sg
    split
    · rename_i h
      have:=of_decide_eq_true h
      omega
    · rename_i h
      have : ¬ z < 0:=fun g=>h (decide_eq_true g)
      omega
  rw [e] at hq
  refine aF (mu:=muF) Tryz.func24 fun S hS=>?_
  repeat refine gN ?_
  (refine zw ?_;refine s_call (h1) ?_)
  repeat refine gN ?_
  (refine zw ?_;refine s_call (h2) ?_)
  repeat refine gN ?_
  (refine zw ?_;refine s_call (hq) ?_)
  repeat refine gN ?_
  (refine eF hS ?_ (fl':=[(4,np ⟨false,(z % (m : Int)).toNat,0⟩)]);(repeat' (first | refine fJ ?_ ?_ | exact True.intro);all_goals (try (first | exact kv | exact kQ | exact kQc | exact kIc | exact kFn0 | exact kOac | (refine kW (ov_of lks) rfl ?_ ?_)))))
end Go.Proofs

/-
  The laws of recur: awake.
-/
-- kv2
namespace Go.Proofs
open Go Go.Abs Go.Nums
attribute [local irreducible] thenA blockA awp aw Stp EndF EndP EndN EndG aOps aOpsM scopeA
set_option linter.unusedSimpArgs false
set_option linter.unusedVariables false
set_option maxHeartbeats 4000000

theorem ext_awake : extN [1,1] 9 [0,1] = some [0,1,1,2,3,5,8,13,21,34,55]:=by decide +kernel
theorem mod_awake : modR [0,1] [1,1] 7 10 (blen 10) = 6:=by decide +kernel
theorem lims_small {l : List Int} (h : ∀ x ∈ l,x.natAbs < 18446744073709551616) : lims 4096 l:=fun x hx=>Nat.le_trans (lim1 (K:=1) (by decide) (h x hx)) (by decide)

theorem c_samelongsP (z : Nm) (a b : List Int) (ha : a.length < 2 ^ 60) (hb : b.length < 2 ^ 60) : AProc Tryz.prog 36 [li a,.c (.win z 0 b.length b.length)] [(z,.ints 2 .i64 b)] [(z,.ints 2 .i64 b)] (bvl (decide (a = b))):=by
  obtain ⟨R,hR⟩ : ∃ R,R = decide (a = b):=⟨_,rfl⟩
  rw [← hR]
  (refine aproc1 (mu:=muF) Tryz.func36 rfl (by decide) rfl (by decide) (Nat.le_of_ble_eq_true rfl) (by simp [AVal.at,AVal.at1,Cell.at]) (by simp [AVal.at,AVal.at1,Cell.at]) (by simp [AVal.at,AVal.at1,Cell.at]) nmX nmX fun S hS=>?_;simp only [List.map_cons,List.map_nil,AVal.map,AVal.map1,Cell.map])
  repeat refine gN ?_
  (refine zw ?_;refine s_cmp (fun g=>?_) (fun g=>?_))
  · have e1 : R = false:=by rw [hR];exact decide_eq_false fun e=>g (by rw [e])
    rw [e1]
    repeat refine gN ?_
    (refine endP1 ttOk (fl':=[(4,bvl false)]) (.inr rfl) hS lks nmX (by intro m hm;simp [lkS,addL,delL,Nm.isLoc,hm]) ?_ ?_ (by exact rfl) (by exact rfl) (by exact rfl))
    · rfl
    · (repeat' (first | refine fJ ?_ ?_ | exact True.intro);all_goals (try (first | exact kv | exact kQ | exact kQc | exact kIc | exact kFn0 | exact kOac | (refine kW (ov_of lks) rfl ?_ ?_))))
  have hab : a.length = b.length:=by omega
  repeat refine gN ?_
  refine awp_rep (fun i : Nat=>⟨lk' [(0,li a),(1,.c (.win (.out z) 0 b.length b.length)),(5,iv i)],ov [(.out z,.ints 2 .i64 b)] (pushS S)⟩) (fun i=>i ≤ a.length∧∀ j,j < i→a.getD j 0 = b.getD j 0) (fun i=>a.length + 1 - i) 0 ⟨Nat.zero_le _,fun j hj=>by omega⟩ ?_ ?_
  · (refine fz hS ?_ ?_;all_goals (repeat' (first | refine fJ ?_ ?_ | exact True.intro));all_goals (try (first | exact kv | exact kQ | exact kQc | exact kIc | exact kFn0 | exact kOac | (refine kW (ov_of lks) rfl ?_ ?_))))
  rintro i ⟨hi,hs⟩
  repeat refine gN ?_
  (refine zw ?_;refine s_cmp (fun g2=>?_) (fun g2=>?_))
  rotate_left
  · have : i = a.length:=by omega
    have e : a = b:=by
      refine List.ext_getElem? fun j=>?_
      by_cases hj : j < a.length
      · have:=hs j (by omega)
        rw [List.getD_eq_getElem?_getD,List.getD_eq_getElem?_getD,List.getElem?_eq_getElem hj,List.getElem?_eq_getElem (by omega)] at this
        rw [List.getElem?_eq_getElem hj,List.getElem?_eq_getElem (by omega)]
        exact congrArg some this
      · rw [List.getElem?_eq_none (by omega),List.getElem?_eq_none (by omega)]
    have e1 : R = true:=by rw [hR];exact decide_eq_true e
    rw [e1]
    repeat refine gN ?_
    (refine endP1 ttOk (fl':=[(4,bvl true)]) (.inr rfl) hS lks nmX (by intro m hm;simp [lkS,addL,delL,Nm.isLoc,hm]) ?_ ?_ (by exact rfl) (by exact rfl) (by exact rfl))
    · rfl
    · (repeat' (first | refine fJ ?_ ?_ | exact True.intro);all_goals (try (first | exact kv | exact kQ | exact kQc | exact kIc | exact kFn0 | exact kOac | (refine kW (ov_of lks) rfl ?_ ?_))))
  repeat refine gN ?_
  (refine zw ?_;refine s_cmp (fun g3=>?_) (fun g3=>?_))
  · have e1 : R = false:=by
      rw [hR]
      refine decide_eq_false fun e=>g3 ?_
      rw [e]
      simp
    rw [e1]
    repeat refine gN ?_
    (refine endP1 ttOk (fl':=[(4,bvl false)]) (.inr rfl) hS lks nmX (by intro m hm;simp [lkS,addL,delL,Nm.isLoc,hm]) ?_ ?_ (by exact rfl) (by exact rfl) (by exact rfl))
    · rfl
    · (repeat' (first | refine fJ ?_ ?_ | exact True.intro);all_goals (try (first | exact kv | exact kQ | exact kQc | exact kIc | exact kFn0 | exact kOac | (refine kW (ov_of lks) rfl ?_ ?_))))
  repeat refine gN ?_
  refine ⟨i + 1,?_,⟨by omega,fun j hj=>?_⟩,by omega⟩
  · (refine fz hS ?_ ?_;all_goals (repeat' (first | refine fJ ?_ ?_ | exact True.intro));all_goals (try (first | exact kv | exact kQ | exact kQc | exact kIc | exact kFn0 | exact kOac | (refine kW (ov_of lks) rfl ?_ ?_))))
  · rcases Nat.lt_or_ge j i with q | q
    · exact hs j q
    · have : j = i:=by omega
      subst this
      have:=Decidable.not_not.1 g3
      simpa using this

theorem c_awakeR : AFun Tryz.prog 9 [] (bvl true):=by
  have l01 : lims 4096 [0,1]:=lims_small (by decide)
  have l11 : lims 4096 [1,1]:=lims_small (by decide)
  have r01 : allR ([0,1].map zp) = true:=by decide +kernel
  have r11 : allR ([1,1].map zp) = true:=by decide +kernel
  have hT : AFun Tryz.prog 11 [zsq [0,1],zsq [1,1],ivl .i64 10] (.tup [wz 55,ivl .i64 0]) :=
    c_term [0,1] [1,1] 10 _ (by simp [nm0,AVal.at,AVal.at1,Cell.at]) rfl (by decide) (by decide) (by decide) l01 l11 r01 r11 (by
      rw [show (10 + 1 - [(0 : Int),1].length) = 9 from rfl,ext_awake]
      rfl)
  have hM : AFun Tryz.prog 16 [zsq [0,1],zsq [1,1],wi false (digs B 10),wi false (digs B 7)] (.tup [wz 6,ivl .i64 0]):=by
    have:=c_recmod [0,1] [1,1] 10 7 rfl (by decide) (by decide) (Nat.le_trans ((digs_len hB (k:=1)).2 (by decide)) (by decide)) ((digs_len hB (k:=1)).2 (by decide)) l01 l11 r01 r11 (by decide +kernel)
    rw [show ((7 : Nat) : Int) = 7 from rfl,mod_awake] at this
    exact this
  have hSh : AFun Tryz.prog 35 [li [0,1,1,2,3,5,8,13],ivl .i64 101] (.tup [li [1,1],ivl .i64 0]):=by
    have:=c_shortrow [0,1,1,2,3,5,8,13] 101 (by decide) (by decide) pB_101 gcd_101 (by decide) (by decide)
    rw [short_awake] at this
    exact this
  have hI1 : AFun Tryz.prog 13 [wz 55,ivl .i64 0,vz 55,ivl .i64 0] (bvl true):=by
    have:=c_lawis (decide ((55 : Int) < 0)) (decide ((55 : Int) < 0)) (digs B (55 : Int).natAbs) (digs B (55 : Int).natAbs) 0 0 (Nat.lt_of_le_of_lt ((digs_len hB (n:=55) (k:=1)).2 (by decide)) (by decide)) (Nat.lt_of_le_of_lt ((digs_len hB (n:=55) (k:=1)).2 (by decide)) (by decide))
    rw [decide_eq_true (show _∧_∧_ from ⟨rfl,rfl,rfl⟩)] at this
    exact this
  have hI2 : AFun Tryz.prog 13 [wz 6,ivl .i64 0,vz 6,ivl .i64 0] (bvl true):=by
    have:=c_lawis (decide ((6 : Int) < 0)) (decide ((6 : Int) < 0)) (digs B (6 : Int).natAbs) (digs B (6 : Int).natAbs) 0 0 (Nat.lt_of_le_of_lt ((digs_len hB (n:=6) (k:=1)).2 (by decide)) (by decide)) (Nat.lt_of_le_of_lt ((digs_len hB (n:=6) (k:=1)).2 (by decide)) (by decide))
    rw [decide_eq_true (show _∧_∧_ from ⟨rfl,rfl,rfl⟩)] at this
    exact this
  have hL : AFun Tryz.prog 36 [li [1,1],li [1,1]] (bvl true):=by
    have:=c_samelongs [1,1] [1,1] (by decide) (by decide)
    rw [decide_eq_true (show [(1 : Int),1] = [1,1] from rfl)] at this
    exact this
  refine aF (mu:=muF) Tryz.func9 fun S hS=>?_
  repeat refine gN ?_
  ((first | refine aw_fz 8 ?_ ?_ | refine awp_fz 8 ?_ ?_);rotate_left;· (repeat' (first | exact True.intro | refine And.intro ?_ ?_)) <;> first | (show _ ≤ _;simp;done) | (show _ ≤ _;simp;omega) | (show _ ≤ _;omega))
  (refine zw ?_;refine s_call (c_lawsmall [0,1] (by decide) (by decide)) ?_)
  repeat refine gN ?_
  ((first | refine aw_fz 10 ?_ ?_ | refine awp_fz 10 ?_ ?_);rotate_left;· (repeat' (first | exact True.intro | refine And.intro ?_ ?_)) <;> first | (show _ ≤ _;simp;done) | (show _ ≤ _;simp;omega) | (show _ ≤ _;omega))
  (refine zw ?_;refine s_call (c_lawsmall [1,1] (by decide) (by decide)) ?_)
  repeat refine gN ?_
  (refine zw ?_;refine s_call (hT) ?_)
  repeat refine gN ?_
  ((first | refine aw_fz 16 ?_ ?_ | refine awp_fz 16 ?_ ?_);rotate_left;· (repeat' (first | exact True.intro | refine And.intro ?_ ?_)) <;> first | (show _ ≤ _;simp;done) | (show _ ≤ _;simp;omega) | (show _ ≤ _;omega))
  (refine zw ?_;refine s_call (c_lawsmall [0,1] (by decide) (by decide)) ?_)
  repeat refine gN ?_
  ((first | refine aw_fz 18 ?_ ?_ | refine awp_fz 18 ?_ ?_);rotate_left;· (repeat' (first | exact True.intro | refine And.intro ?_ ?_)) <;> first | (show _ ≤ _;simp;done) | (show _ ≤ _;simp;omega) | (show _ ≤ _;omega))
  (refine zw ?_;refine s_call (c_lawsmall [1,1] (by decide) (by decide)) ?_)
  repeat refine gN ?_
  (refine zw ?_;refine s_call (c_smallZ 10 (by decide) (by decide)) ?_)
  repeat refine gN ?_
  (refine zw ?_;refine s_call (c_smallZ 7 (by decide) (by decide)) ?_)
  repeat refine gN ?_
  (refine zw ?_;refine s_call (hM) ?_)
  repeat refine gN ?_
  ((first | refine aw_fz 26 ?_ ?_ | refine awp_fz 26 ?_ ?_);rotate_left;· (repeat' (first | exact True.intro | refine And.intro ?_ ?_)) <;> first | (show _ ≤ _;simp;done) | (show _ ≤ _;simp;omega) | (show _ ≤ _;omega))
  (refine zw ?_;refine s_call (hSh) ?_)
  repeat refine gN ?_
  (refine zw ?_;refine s_call (c_smallZ 55 (by decide) (by decide)) ?_)
  repeat refine gN ?_
  (refine zw ?_;refine s_call (hI1) ?_)
  repeat refine gN ?_
  try refine stp_gT (by exact rfl) (by exact rfl) ?_
  (refine zw ?_;refine s_call (c_smallZ 6 (by decide) (by decide)) ?_)
  repeat refine gN ?_
  try refine stp_gT (by exact rfl) (by exact rfl) ?_
  (refine zw ?_;refine s_call (hI2) ?_)
  repeat refine gN ?_
  try refine stp_gT (by exact rfl) (by exact rfl) ?_
  refine s_cmp (fun g=>?_) (fun g=>absurd rfl g)
  repeat refine gN ?_
  try refine stp_gT (by exact rfl) (by exact rfl) ?_
  repeat refine gN ?_
  (refine zw ?_;refine s_read ((c_samelongsP (.loc 46) [1,1] [1,1] (by decide) (by decide)).read ⟨_,List.mem_cons_of_mem _ List.mem_cons_self,rfl⟩) ?_ (by intro p hp;first | (simp only [List.mem_singleton] at hp;subst hp;exact lks) | (simp only [List.mem_cons,List.not_mem_nil,or_false] at hp;rcases hp with rfl | rfl <;> exact lks)))
  rw [decide_eq_true (show [(1 : Int),1] = [1,1] from rfl)]
  repeat refine gN ?_
  (refine eF hS ?_ (fl':=[(0,bvl true)]);(repeat' (first | refine fJ ?_ ?_ | exact True.intro);all_goals (try (first | exact kv | exact kQ | exact kQc | exact kIc | exact kFn0 | exact kOac | (refine kW (ov_of lks) rfl ?_ ?_)))))
end Go.Proofs
