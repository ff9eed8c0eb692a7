/-
  An abstract machine for this program, and contracts of its functions: part Mas (no statement by itself).
-/
import Derived.Test.YtdbjhcgogmfghaaDoorMap
import Derived.Test.YtdbjhcgogmfghaaDoorMah
import Derived.Test.YtdbjhcgogmfghaaDoorMao
import Derived.Test.YtdbjhcgogmfghaaDoorMar
import Derived.Test.YtdbjhcgogmfghaaDoorRows
import Derived.ProofKit
import Derived.OpenShut
import Derived.LaidMore
import Derived.Lib.SmallJoins
import Derived.Lib.LaidTab
import Derived.MakeChecks
import Derived.Stop.Joined
set_option linter.unusedVariables false
set_option linter.unusedSimpArgs false
set_option linter.unnecessarySimpa false

/-
  recur: Shortest's inner loops.
-/
-- kv2
-- kv4
namespace Go.Proofs
open Go Go.Abs Go.Nums
attribute [local irreducible] thenA blockA awp aw Stp EndF EndP EndN EndG aOps aOpsM scopeA
set_option linter.unusedSimpArgs false
set_option linter.unusedVariables false
set_option maxHeartbeats 4000000

noncomputable def cL : Code → Code
  | .seq a _ => a
  | .cond _ a _ => a
  | .block _ c => c
  | .loop c => c
  | c => c
noncomputable def cR : Code → Code
  | .seq _ b => b
  | .cond _ _ b => b
  | c => c
abbrev tL : TypeId := 2
theorem bm_bound {p : Int} {a : Nat → Int} {n : Nat} {s : BM} (h : BMI p a n s) : s.size ≤ n ∧ s.since ≤ n + 1 ∧ s.now.length ≤ n + 1 ∧ s.tn.length + s.since ≤ n + 2 ∧ 0 < s.now.length := by
  have h1 := h.s1
  have h2 := h.g.2.1
  have h3 := h.g.1
  have h4 : 0 < s.now.length := by
    refine Nat.pos_of_ne_zero fun e => ?_
    rw [List.eq_nil_of_length_eq_zero e] at h3
    simp at h3
  rcases h.old with ⟨q1, q2, q3⟩ | ⟨sb, nb, q1, q2, q3, -⟩ <;> omega

theorem mul_p {p : Int} (hp2 : p < 2147483648) (a b : Int) (ha : 0 ≤ a ∧ a < p) (hb : 0 ≤ b ∧ b < p) : 0 ≤ a * b ∧ a * b < 4611686018427387904 := by
  have h1 := Int.mul_nonneg ha.1 hb.1
  have h2 := Int.mul_le_mul (show a ≤ 2147483647 by omega) (show b ≤ 2147483647 by omega) hb.1 (by decide)
  omega

noncomputable def bmL3 : Code := (cL (cR (cL (cR (cR (cR (cR (cR (cR (cR (cR (Tryd.f12.body.getD .skip))))))))))))
noncomputable def bmL5 : Code := (cL (cR (cL (cR (cR (cL (cL (cR (cR (cL (cL (cR (cL (cR (cR (cR (cR (cR (cR (cR (cR (Tryd.f12.body.getD .skip))))))))))))))))))))))
noncomputable def bmL7 : Code := (cL (cL (cR (cR (cR (cR (cR (cR (cL (cL (cR (cR (cL (cL (cR (cL (cR (cR (cR (cR (cR (cR (cR (cR (Tryd.f12.body.getD .skip)))))))))))))))))))))))))
noncomputable def bmL9 : Code := (cL (cR (cL (cR (cR (cR (cR (cR (cR (cR (cL (cL (cR (cR (cL (cL (cR (cL (cR (cR (cR (cR (cR (cR (cR (cR (Tryd.f12.body.getD .skip)))))))))))))))))))))))))))
theorem bm_l5 {S : Store} (hS : ∀ n b, S n = some b → b.cl S) {Q : Exit → St → Prop} {p : Int} (hp0 : 0 < p) (hp2 : p < 2147483648) {row : List Int} (hrl : row.length ≤ 4096) (hrr : inR p row) {n : Nat} (hn : n < row.length) {s : BM} (b1 : s.size ≤ n) (b2 : s.since ≤ n + 1) (b3 : s.now.length ≤ n + 1) (b4 : s.tn.length + s.since ≤ n + 2) (b5 : 0 < s.now.length) (hsn : inR p s.now) (hst : inR p s.tn) (hw : 0 < s.was ∧ s.was < p) (off : Int) (hoff : off = offS s.now row p n s.now.length) :
    awp Tryd.prog muF Tryd.f12.ntmps bmL5 (blockA 5 (thenA (fun st => Weak st ⟨lk' [(16, iv n), (17, ivl .i64 off), (3, pi64 p), (6, .fn 37 [.pim [.sc (.int .i64 p)]]), (7, .fn 38 [.pim [.sc (.int .i64 p)]]), (8, li row), (11, .c (.win (.loc 53) 0 s.now.length s.now.length)), (12, li s.tn), (13, iv s.size), (14, iv s.since), (15, ivl .i64 s.was), (56, iv row.length), (57, iv n)], ov [(.loc 53, .ints tL .i64 s.now)] (pushS S)⟩) Q))
      ⟨lk' [(16, iv n), (17, ivl .i64 0), (60, .c (.win (.loc 53) 0 s.now.length s.now.length)), (61, iv s.now.length), (62, iv 0), (3, pi64 p), (6, .fn 37 [.pim [.sc (.int .i64 p)]]), (7, .fn 38 [.pim [.sc (.int .i64 p)]]), (8, li row), (11, .c (.win (.loc 53) 0 s.now.length s.now.length)), (12, li s.tn), (13, iv s.size), (14, iv s.since), (15, ivl .i64 s.was), (56, iv row.length), (57, iv n)], ov [(.loc 53, .ints tL .i64 s.now)] (pushS S)⟩ := by
  have hmul := mul_p hp2
  refine awp_rep (fun i : Nat => ⟨lk' [(16, iv n), (17, ivl .i64 (offS s.now row p n i)), (60, .c (.win (.loc 53) 0 s.now.length s.now.length)), (61, iv s.now.length), (62, iv i), (3, pi64 p), (6, .fn 37 [.pim [.sc (.int .i64 p)]]), (7, .fn 38 [.pim [.sc (.int .i64 p)]]), (8, li row), (11, .c (.win (.loc 53) 0 s.now.length s.now.length)), (12, li s.tn), (13, iv s.size), (14, iv s.since), (15, ivl .i64 s.was), (56, iv row.length), (57, iv n)], ov [(.loc 53, .ints tL .i64 s.now)] (pushS S)⟩)
    (fun i => i ≤ s.now.length) (fun i => s.now.length + 1 - i) 0 (Nat.zero_le _) (Weak.refl _) ?_
  intro i hi
  have ho := offS_rng (c := s.now) (row := row) hp0 (n := n) i
  repeat refine gN ?_
  ((first | refine zw1 ?_ | refine zw2 ?_ | refine zw3 ?_); refine s_cmp (fun g3 => ?_) (fun g3 => ?_))
  · have hci := inR_get hp0 hsn i
    repeat refine gN ?_
    ((first | refine zw1 ?_ | refine zw2 ?_ | refine zw3 ?_); refine s_cmp (fun g4 => ?_) (fun g4 => ?_))
    · have hri := inR_get hp0 hrr (n - i)
      have hm := hmul _ _ hci hri
      repeat refine gN ?_
      rw [show ((n : Int) - i).toNat = n - i by omega]
      repeat refine gN ?_
      ((first | refine zw1 ?_ | refine zw2 ?_ | refine zw3 ?_); refine s_callG (c_mod1 p (offS s.now row p n i + s.now.getD i 0 * row.getD (n - i) 0) hp0 (by omega) (by omega) (by omega)) ?_)
      repeat refine gN ?_
      refine ⟨i + 1, ?_, by omega, by omega⟩
      rw [offS, if_pos (by omega)]
      (refine frz hS (by exact rfl) ?_ ?_; all_goals (repeat' (first | refine fF ?_ ?_ | refine fS ?_ ?_ | exact True.intro)); all_goals (try (first | exact kv | exact kFn1 | exact kQ | exact kQc | exact kIc | exact kFn0 | exact kOac | (refine kW (ov_of lks) rfl ?_ ?_))))
    · repeat refine gN ?_
      refine ⟨i + 1, ?_, by omega, by omega⟩
      rw [offS, if_neg (by omega)]
      (refine frz hS (by exact rfl) ?_ ?_; all_goals (repeat' (first | refine fF ?_ ?_ | refine fS ?_ ?_ | exact True.intro)); all_goals (try (first | exact kv | exact kFn1 | exact kQ | exact kQc | exact kIc | exact kFn0 | exact kOac | (refine kW (ov_of lks) rfl ?_ ?_))))
  · repeat refine gN ?_
    have : i = s.now.length := by omega
    subst this
    rw [← hoff]
    (refine frz hS (by exact rfl) ?_ ?_; all_goals (repeat' (first | refine fF ?_ ?_ | refine fS ?_ ?_ | exact True.intro)); all_goals (try (first | exact kv | exact kFn1 | exact kQ | exact kQc | exact kIc | exact kFn0 | exact kOac | (refine kW (ov_of lks) rfl ?_ ?_))))

theorem bm_l7 {S : Store} (hS : ∀ n b, S n = some b → b.cl S) {Q : Exit → St → Prop} {p : Int} (hp0 : 0 < p) (hp2 : p < 2147483648) {row : List Int} (hrl : row.length ≤ 4096) (hrr : inR p row) {n : Nat} (hn : n < row.length) {s : BM} (b1 : s.size ≤ n) (b2 : s.since ≤ n + 1) (b3 : s.now.length ≤ n + 1) (b4 : s.tn.length + s.since ≤ n + 2) (b5 : 0 < s.now.length) (hsn : inR p s.now) (hst : inR p s.tn) (hw : 0 < s.was ∧ s.was < p) (off y : Int) (M : Nat) (hM : M = max s.now.length (s.tn.length + s.since)) :
    awp Tryd.prog muF Tryd.f12.ntmps bmL7 (blockA 7 (thenA (fun st => Weak st ⟨lk' [(16, iv n), (17, ivl .i64 off), (20, li s.now), (21, ivl .i64 y), (3, pi64 p), (6, .fn 37 [.pim [.sc (.int .i64 p)]]), (7, .fn 38 [.pim [.sc (.int .i64 p)]]), (8, li row), (11, .c (.win (.loc 53) 0 M M)), (12, li s.tn), (13, iv s.size), (14, iv s.since), (15, ivl .i64 s.was), (56, iv row.length), (57, iv n)], ov [(.loc 53, .ints tL .i64 (padTo s.now (s.tn.length + s.since)))] (pushS S)⟩) Q))
      ⟨lk' [(16, iv n), (17, ivl .i64 off), (20, li s.now), (21, ivl .i64 y), (3, pi64 p), (6, .fn 37 [.pim [.sc (.int .i64 p)]]), (7, .fn 38 [.pim [.sc (.int .i64 p)]]), (8, li row), (11, .c (.win (.loc 53) 0 s.now.length s.now.length)), (12, li s.tn), (13, iv s.size), (14, iv s.since), (15, ivl .i64 s.was), (56, iv row.length), (57, iv n)], ov [(.loc 53, .ints tL .i64 s.now)] (pushS S)⟩ := by
  refine awp_rep (fun j : Nat => ⟨lk' [(16, iv n), (17, ivl .i64 off), (20, li s.now), (21, ivl .i64 y), (3, pi64 p), (6, .fn 37 [.pim [.sc (.int .i64 p)]]), (7, .fn 38 [.pim [.sc (.int .i64 p)]]), (8, li row), (11, .c (.win (.loc 53) 0 (s.now.length + j) (s.now.length + j))), (12, li s.tn), (13, iv s.size), (14, iv s.since), (15, ivl .i64 s.was), (56, iv row.length), (57, iv n)], ov [(.loc 53, .ints tL .i64 (s.now ++ List.replicate j 0))] (pushS S)⟩)
    (fun j => s.now.length + j ≤ M) (fun j => M - (s.now.length + j)) 0 (by omega) (by rw [List.replicate_zero, List.append_nil]; exact Weak.refl _) ?_
  intro j hj
  repeat refine gN ?_
  ((first | refine zw1 ?_ | refine zw2 ?_ | refine zw3 ?_); refine s_cmp (fun g4 => ?_) (fun g4 => ?_))
  · repeat refine gN ?_
    refine aw_appOwn ttOk (q := 53) (Y := [0]) (len := s.now.length + j) (cm := s.now.length + j) ?_ ?_ ?_
    rotate_left
    · exact srcE_win (L := [0]) lks (by simp)
    · exact ⟨by omega, by simp, by decide, by show _ + 1 ≤ _; omega⟩
    repeat refine gN ?_
    refine ⟨j + 1, ?_, by omega, by omega⟩
    have e : List.take (s.now.length + j) (s.now ++ List.replicate j 0) ++ [0] = s.now ++ List.replicate (j + 1) 0 := by
      rw [List.take_of_length_le (by simp), List.append_assoc, ← List.replicate_succ']
    rw [e]
    refine Weak.trans (b := ⟨lk' [(16, iv n), (17, ivl .i64 off), (20, li s.now), (21, ivl .i64 y), (3, pi64 p), (6, .fn 37 [.pim [.sc (.int .i64 p)]]), (7, .fn 38 [.pim [.sc (.int .i64 p)]]), (8, li row), (11, .c (.win (.loc 105) 0 (s.now.length + (j + 1)) (s.now.length + (j + 1)))), (12, li s.tn), (13, iv s.size), (14, iv s.since), (15, ivl .i64 s.was), (56, iv row.length), (57, iv n)], ov [(.loc 105, .ints tL .i64 (s.now ++ List.replicate (j + 1) 0))] (pushS S)⟩) ?_ ?_
    · (refine frz hS (by exact rfl) ?_ ?_; all_goals (repeat' (first | refine fF ?_ ?_ | refine fS ?_ ?_ | exact True.intro)); all_goals (try (first | exact kv | exact kFn1 | exact kQ | exact kQc | exact kIc | exact kFn0 | exact kOac | (refine kW (ov_of lks) rfl ?_ ?_))))
    · refine Weak.ren1 ints_nm0 ?_
      repeat' (first | exact trivial | refine ⟨⟨_, rfl, rW⟩, ?_⟩ | refine ⟨⟨_, rfl, rK⟩, ?_⟩ | refine ⟨⟨_, rfl, rK (by simp [AVal.at, AVal.at1, Cell.at])⟩, ?_⟩)
  · repeat refine gN ?_
    have e : s.now ++ List.replicate j 0 = padTo s.now (s.tn.length + s.since) := by
      rw [padTo, show s.tn.length + s.since - s.now.length = j by omega]
    rw [e, show s.now.length + j = M by omega]
    (refine frz hS (by exact rfl) ?_ ?_; all_goals (repeat' (first | refine fF ?_ ?_ | refine fS ?_ ?_ | exact True.intro)); all_goals (try (first | exact kv | exact kFn1 | exact kQ | exact kQc | exact kIc | exact kFn0 | exact kOac | (refine kW (ov_of lks) rfl ?_ ?_))))

theorem bm_l9 {S : Store} (hS : ∀ n b, S n = some b → b.cl S) {Q : Exit → St → Prop} {p : Int} (hp0 : 0 < p) (hp2 : p < 2147483648) {row : List Int} (hrl : row.length ≤ 4096) (hrr : inR p row) {n : Nat} (hn : n < row.length) {s : BM} (b1 : s.size ≤ n) (b2 : s.since ≤ n + 1) (b3 : s.now.length ≤ n + 1) (b4 : s.tn.length + s.since ≤ n + 2) (b5 : 0 < s.now.length) (hsn : inR p s.now) (hst : inR p s.tn) (hw : 0 < s.was ∧ s.was < p) (off y : Int) (hyr : 0 ≤ y ∧ y < p) (M : Nat) (hM : M = max s.now.length (s.tn.length + s.since)) (c0 : List Int) (hpl : c0.length = M) (hc0r : inR p c0) :
    awp Tryd.prog muF Tryd.f12.ntmps bmL9 (blockA 9 (thenA (fun st => Weak st ⟨lk' [(16, iv n), (17, ivl .i64 off), (20, li s.now), (3, pi64 p), (6, .fn 37 [.pim [.sc (.int .i64 p)]]), (7, .fn 38 [.pim [.sc (.int .i64 p)]]), (8, li row), (11, .c (.win (.loc 53) 0 M M)), (12, li s.tn), (13, iv s.size), (14, iv s.since), (15, ivl .i64 s.was), (56, iv row.length), (57, iv n)], ov [(.loc 53, .ints tL .i64 (subS s.tn y p s.since s.tn.length c0))] (pushS S)⟩) Q))
      ⟨lk' [(106, li s.tn), (107, iv s.tn.length), (108, iv 0), (16, iv n), (17, ivl .i64 off), (20, li s.now), (21, ivl .i64 y), (3, pi64 p), (6, .fn 37 [.pim [.sc (.int .i64 p)]]), (7, .fn 38 [.pim [.sc (.int .i64 p)]]), (8, li row), (11, .c (.win (.loc 53) 0 M M)), (12, li s.tn), (13, iv s.size), (14, iv s.since), (15, ivl .i64 s.was), (56, iv row.length), (57, iv n)], ov [(.loc 53, .ints tL .i64 c0)] (pushS S)⟩ := by
  have hmul := mul_p hp2
  refine awp_rep (fun i : Nat => ⟨lk' [(106, li s.tn), (107, iv s.tn.length), (108, iv i), (16, iv n), (17, ivl .i64 off), (20, li s.now), (21, ivl .i64 y), (3, pi64 p), (6, .fn 37 [.pim [.sc (.int .i64 p)]]), (7, .fn 38 [.pim [.sc (.int .i64 p)]]), (8, li row), (11, .c (.win (.loc 53) 0 M M)), (12, li s.tn), (13, iv s.size), (14, iv s.since), (15, ivl .i64 s.was), (56, iv row.length), (57, iv n)], ov [(.loc 53, .ints tL .i64 (subS s.tn y p s.since i c0))] (pushS S)⟩)
    (fun i => i ≤ s.tn.length) (fun i => s.tn.length + 1 - i) 0 (Nat.zero_le _) (Weak.refl _) ?_
  intro i hi
  obtain ⟨D, hD⟩ : ∃ D, D = subS s.tn y p s.since i c0 := ⟨_, rfl⟩
  have hDr : inR p D := by rw [hD]; exact subS_rng hp0 hc0r i
  have hDl : D.length = M := by rw [hD, subS_len, hpl]
  rw [← hD]
  repeat refine gN ?_
  ((first | refine zw1 ?_ | refine zw2 ?_ | refine zw3 ?_); refine s_cmp (fun g4 => ?_) (fun g4 => ?_))
  · have hti := inR_get hp0 hst i
    have hci := inR_get hp0 hDr (i + s.since)
    have hm2 := hmul y _ hyr hti
    have hm3 := Int.emod_nonneg (y * s.tn.getD i 0) (show p ≠ 0 by omega)
    have hm4 := Int.emod_lt_of_pos (y * s.tn.getD i 0) hp0
    repeat refine gN ?_
    rw [show (i : Int).toNat = i by omega]
    repeat refine gN ?_
    ((first | refine zw1 ?_ | refine zw2 ?_ | refine zw3 ?_); refine s_callG (c_mod1 p (D.getD (i + s.since) 0 - y * s.tn.getD i 0 % p) hp0 (by omega) (by omega) (by omega)) ?_)
    repeat refine gN ?_
    refine ⟨i + 1, ?_, by omega, by omega⟩
    rw [subS, ← hD]
    (refine frz hS (by exact rfl) ?_ ?_; all_goals (repeat' (first | refine fF ?_ ?_ | refine fS ?_ ?_ | exact True.intro)); all_goals (try (first | exact kv | exact kFn1 | exact kQ | exact kQc | exact kIc | exact kFn0 | exact kOac | (refine kW (ov_of lks) rfl ?_ ?_))))
  · repeat refine gN ?_
    have : i = s.tn.length := by omega
    subst this
    rw [hD]
    (refine frz hS (by exact rfl) ?_ ?_; all_goals (repeat' (first | refine fF ?_ ?_ | refine fS ?_ ?_ | exact True.intro)); all_goals (try (first | exact kv | exact kFn1 | exact kQ | exact kQc | exact kIc | exact kFn0 | exact kOac | (refine kW (ov_of lks) rfl ?_ ?_))))
end Go.Proofs

/-
  recur: Shortest, where it is not refused: Berlekamp's and Massey's way.
-/
-- kv2
-- kv4
namespace Go.Proofs
open Go Go.Abs Go.Nums
attribute [local irreducible] thenA blockA awp aw Stp EndF EndP EndN EndG aOps aOpsM scopeA
set_option linter.unusedSimpArgs false
set_option linter.unusedVariables false
set_option maxHeartbeats 4000000

def shortF (p : Int) (l : List Int) : List Int × Int :=
  let s := bmRun (invE p) (l.map (· % p)) p l.length
  if l.length < 2 * s.size then ([], 340) else (outS s.now p s.size, 0)

theorem bm_l3 {S : Store} (hS : ∀ n b, S n = some b → b.cl S) {Q : Exit → St → Prop} {p : Int} (hp : 1 < p) (hp2 : p < 2147483648) (hco : ∀ x, 0 < x → x < p → Int.gcd x p = 1) {row : List Int} (hrl : row.length ≤ 4096) (hrr : inR p row) :
    awp Tryd.prog muF Tryd.f12.ntmps bmL3 (blockA 3 (thenA (fun st => ∃ s, s = bmRun (invE p) row p row.length ∧ Weak st ⟨lk' [(3, pi64 p), (6, .fn 37 [.pim [.sc (.int .i64 p)]]), (8, li row), (11, .c (.win (.loc 53) 0 s.now.length s.now.length)), (13, iv s.size)], ov [(.loc 53, .ints tL .i64 s.now)] (pushS S)⟩) Q)) ⟨lk' [(3, pi64 p), (6, .fn 37 [.pim [.sc (.int .i64 p)]]), (7, .fn 38 [.pim [.sc (.int .i64 p)]]), (8, li row), (11, .c (.win (.loc 53) 0 1 1)), (12, li [1]), (13, iv 0), (14, iv 1), (15, ivl .i64 1), (56, iv row.length), (57, iv 0)], ov [(.loc 53, .ints tL .i64 [1])] (pushS S)⟩ := by
  have hp0 : 0 < p := by omega
  have hmul := mul_p hp2
  have hinv : ∀ x, 0 < x → x < p → x * invE p x % p = 1 := fun x h1 h2 => invE_ok hp (hco x h1 h2)
  have hB := bmi_run hp hinv row
  refine awp_rep2 (fun (n : Nat) (s : BM) => ⟨lk' [(3, pi64 p), (6, .fn 37 [.pim [.sc (.int .i64 p)]]), (7, .fn 38 [.pim [.sc (.int .i64 p)]]), (8, li row), (11, .c (.win (.loc 53) 0 s.now.length s.now.length)), (12, li s.tn), (13, iv s.size), (14, iv s.since), (15, ivl .i64 s.was), (56, iv row.length), (57, iv n)], ov [(.loc 53, .ints tL .i64 s.now)] (pushS S)⟩)
    (fun n s => n ≤ row.length ∧ s = bmRun (invE p) row p n) (fun n _ => row.length + 1 - n) 0 ⟨[1], [1], 0, 1, 1⟩ ⟨Nat.zero_le _, rfl⟩ (Weak.refl _) ?_
  rintro n s ⟨hn, hs⟩
  have hI := hB n
  rw [← hs] at hI
  obtain ⟨b1, b2, b3, b4, b5⟩ := bm_bound hI
  have hsn := hI.r
  have hst := hI.tr
  have hw := hI.w
  repeat refine gN ?_
  ((first | refine zw1 ?_ | refine zw2 ?_ | refine zw3 ?_); refine s_cmp (fun g2 => ?_) (fun g2 => ?_))
  rotate_left
  · have : n = row.length := by omega
    subst this
    repeat refine gN ?_
    refine ⟨s, hs, ?_⟩
    (refine frz hS (by exact rfl) ?_ ?_; all_goals (repeat' (first | refine fF ?_ ?_ | refine fS ?_ ?_ | exact True.intro)); all_goals (try (first | exact kv | exact kFn1 | exact kQ | exact kQc | exact kIc | exact kFn0 | exact kOac | (refine kW (ov_of lks) rfl ?_ ?_))))
  repeat refine gN ?_
  obtain ⟨off, hoff⟩ : ∃ off, off = offS s.now row p n s.now.length := ⟨_, rfl⟩
  refine awp_midB (fun st => Weak st ⟨lk' [(16, iv n), (17, ivl .i64 off), (3, pi64 p), (6, .fn 37 [.pim [.sc (.int .i64 p)]]), (7, .fn 38 [.pim [.sc (.int .i64 p)]]), (8, li row), (11, .c (.win (.loc 53) 0 s.now.length s.now.length)), (12, li s.tn), (13, iv s.size), (14, iv s.since), (15, ivl .i64 s.was), (56, iv row.length), (57, iv n)], ov [(.loc 53, .ints tL .i64 s.now)] (pushS S)⟩) ?_ ?_
  · refine awp_weak _ ?_ (bm_l5 hS hp0 hp2 (by omega) hrr (by omega) b1 b2 b3 b4 b5 hsn hst hw off hoff)
    (refine frz hS (by exact rfl) ?_ ?_; all_goals (repeat' (first | refine fF ?_ ?_ | refine fS ?_ ?_ | exact True.intro)); all_goals (try (first | exact kv | exact kFn1 | exact kQ | exact kQc | exact kIc | exact kFn0 | exact kOac | (refine kW (ov_of lks) rfl ?_ ?_))))
  intro st hst2
  refine awp_weak _ hst2 ?_
  clear hst2 st
  have hor := offS_rng (c := s.now) (row := row) hp0 (n := n) s.now.length
  rw [← hoff] at hor
  repeat refine gN ?_
  ((first | refine zw1 ?_ | refine zw2 ?_ | refine zw3 ?_); refine s_cmp (fun g3 => ?_) (fun g3 => ?_))
  · repeat refine gN ?_
    have hs' : (⟨s.now, s.tn, s.size, s.since + 1, s.was⟩ : BM) = bmRun (invE p) row p (n + 1) := by
      rw [bmRun, ← hs]; unfold bmStep; rw [← hoff, if_pos g3]
    refine ⟨n + 1, _, ?_, ⟨by omega, hs'⟩, by omega⟩
    (refine frz hS (by exact rfl) ?_ ?_; all_goals (repeat' (first | refine fF ?_ ?_ | refine fS ?_ ?_ | exact True.intro)); all_goals (try (first | exact kv | exact kFn1 | exact kQ | exact kQc | exact kIc | exact kFn0 | exact kOac | (refine kW (ov_of lks) rfl ?_ ?_))))
  repeat refine gN ?_
  ((first | refine zw1 ?_ | refine zw2 ?_ | refine zw3 ?_); refine s_read ((c_cloneP (.loc 53) s.now s.now.length (by omega) b5).read ⟨_, List.mem_cons_self, rfl⟩) ?_ (by intro p hp; first | (simp only [List.mem_singleton] at hp; subst hp; exact lks) | (simp only [List.mem_cons, List.not_mem_nil, or_false] at hp; rcases hp with rfl | rfl <;> exact lks)))
  repeat refine gN ?_
  have hir := invE_rng (x := s.was) hp0
  have hm := hmul _ _ hor hir
  ((first | refine zw1 ?_ | refine zw2 ?_ | refine zw3 ?_); refine s_callG (c_inv1 p s.was hp hp2 hw.1 hw.2 (hco _ hw.1 hw.2)) ?_)
  repeat refine gN ?_
  ((first | refine zw1 ?_ | refine zw2 ?_ | refine zw3 ?_); refine s_callG (c_mod1 p (off * invE p s.was) hp0 (by omega) (by omega) (by omega)) ?_)
  obtain ⟨y, hy⟩ : ∃ y, y = off * invE p s.was % p := ⟨_, rfl⟩
  have hyr : 0 ≤ y ∧ y < p := by rw [hy]; exact ⟨Int.emod_nonneg _ (by omega), Int.emod_lt_of_pos _ hp0⟩
  rw [← hy]
  repeat refine gN ?_
  obtain ⟨M, hM⟩ : ∃ M, M = max s.now.length (s.tn.length + s.since) := ⟨_, rfl⟩
  have hpl : (padTo s.now (s.tn.length + s.since)).length = M := by rw [padTo_len, hM]
  refine awp_midB (fun st => Weak st ⟨lk' [(16, iv n), (17, ivl .i64 off), (20, li s.now), (21, ivl .i64 y), (3, pi64 p), (6, .fn 37 [.pim [.sc (.int .i64 p)]]), (7, .fn 38 [.pim [.sc (.int .i64 p)]]), (8, li row), (11, .c (.win (.loc 53) 0 M M)), (12, li s.tn), (13, iv s.size), (14, iv s.since), (15, ivl .i64 s.was), (56, iv row.length), (57, iv n)], ov [(.loc 53, .ints tL .i64 (padTo s.now (s.tn.length + s.since)))] (pushS S)⟩) ?_ ?_
  · refine awp_weak _ ?_ (bm_l7 hS hp0 hp2 (by omega) hrr (by omega) b1 b2 b3 b4 b5 hsn hst hw off y M hM)
    (refine frz hS (by exact rfl) ?_ ?_; all_goals (repeat' (first | refine fF ?_ ?_ | refine fS ?_ ?_ | exact True.intro)); all_goals (try (first | exact kv | exact kFn1 | exact kQ | exact kQc | exact kIc | exact kFn0 | exact kOac | (refine kW (ov_of lks) rfl ?_ ?_))))
  intro st hst2
  refine awp_weak _ hst2 ?_
  clear hst2 st
  obtain ⟨c0, hc0⟩ : ∃ c0, c0 = padTo s.now (s.tn.length + s.since) := ⟨_, rfl⟩
  have hc0r : inR p c0 := by rw [hc0]; exact padTo_rng hp0 hsn _
  rw [← hc0] at hpl ⊢
  repeat refine gN ?_
  refine awp_midB (fun st => Weak st ⟨lk' [(16, iv n), (17, ivl .i64 off), (20, li s.now), (3, pi64 p), (6, .fn 37 [.pim [.sc (.int .i64 p)]]), (7, .fn 38 [.pim [.sc (.int .i64 p)]]), (8, li row), (11, .c (.win (.loc 53) 0 M M)), (12, li s.tn), (13, iv s.size), (14, iv s.since), (15, ivl .i64 s.was), (56, iv row.length), (57, iv n)], ov [(.loc 53, .ints tL .i64 (subS s.tn y p s.since s.tn.length c0))] (pushS S)⟩) ?_ ?_
  · refine awp_weak _ ?_ (bm_l9 hS hp0 hp2 (by omega) hrr (by omega) b1 b2 b3 b4 b5 hsn hst hw off y hyr M hM c0 hpl hc0r)
    (refine frz hS (by exact rfl) ?_ ?_; all_goals (repeat' (first | refine fF ?_ ?_ | refine fS ?_ ?_ | exact True.intro)); all_goals (try (first | exact kv | exact kFn1 | exact kQ | exact kQc | exact kIc | exact kFn0 | exact kOac | (refine kW (ov_of lks) rfl ?_ ?_))))
  intro st hst2
  refine awp_weak _ hst2 ?_
  clear hst2 st
  have hcM : (subS s.tn y p s.since s.tn.length c0).length = M := by rw [subS_len, hpl]
  repeat refine gN ?_
  ((first | refine zw1 ?_ | refine zw2 ?_ | refine zw3 ?_); refine s_cmp (fun g4 => ?_) (fun g4 => ?_))
  · have hs' : (⟨subS s.tn y p s.since s.tn.length c0, s.tn, s.size, s.since + 1, s.was⟩ : BM) = bmRun (invE p) row p (n + 1) := by
      rw [bmRun, ← hs]; unfold bmStep; rw [← hoff, if_neg g3, if_pos (by omega), ← hy, ← hc0]
    rw [← hcM]
    repeat refine gN ?_
    refine ⟨n + 1, _, ?_, ⟨by omega, hs'⟩, by omega⟩
    (refine frz hS (by exact rfl) ?_ ?_; all_goals (repeat' (first | refine fF ?_ ?_ | refine fS ?_ ?_ | exact True.intro)); all_goals (try (first | exact kv | exact kFn1 | exact kQ | exact kQc | exact kIc | exact kFn0 | exact kOac | (refine kW (ov_of lks) rfl ?_ ?_))))
  · have hs' : (⟨subS s.tn y p s.since s.tn.length c0, s.now, n + 1 - s.size, 1, off⟩ : BM) = bmRun (invE p) row p (n + 1) := by
      rw [bmRun, ← hs]; unfold bmStep; rw [← hoff, if_neg g3, if_neg (by omega), ← hy, ← hc0]
    rw [← hcM]
    repeat refine gN ?_
    rw [show ((n + 1 : Nat) : Int) - (s.size : Int) = ((n + 1 - s.size : Nat) : Int) by omega]
    repeat refine gN ?_
    refine ⟨n + 1, _, ?_, ⟨by omega, hs'⟩, by omega⟩
    (refine frz hS (by exact rfl) ?_ ?_; all_goals (repeat' (first | refine fF ?_ ?_ | refine fS ?_ ?_ | exact True.intro)); all_goals (try (first | exact kv | exact kFn1 | exact kQ | exact kQc | exact kIc | exact kFn0 | exact kOac | (refine kW (ov_of lks) rfl ?_ ?_))))
end Go.Proofs

/-
  recur: Shortest, where it is not refused.
-/
-- kv2
-- kv4
namespace Go.Proofs
open Go Go.Abs Go.Nums
attribute [local irreducible] thenA blockA awp aw Stp EndF EndP EndN EndG aOps aOpsM scopeA
set_option linter.unusedSimpArgs false
set_option linter.unusedVariables false
set_option maxHeartbeats 4000000

theorem c_shortrow (l : List Int) (p : Int) (hp : 1 < p) (hp2 : p < 2147483648) (hpB : primeB p = true) (hco : ∀ x, 0 < x → x < p → Int.gcd x p = 1) (hl : l.length ≤ 4096) (hr : ∀ x ∈ l, -9223372036854775808 ≤ x ∧ x < 9223372036854775808) :
    AFun Tryd.prog 12 [li l, ivl .i64 p] (.tup [li (shortF p l).1, ivl .i64 (shortF p l).2]) := by
  have hinv : ∀ x, 0 < x → x < p → x * invE p x % p = 1 := fun x h1 h2 => invE_ok hp (hco x h1 h2)
  obtain ⟨row, hrow⟩ : ∃ row, row = l.map (· % p) := ⟨_, rfl⟩
  have hrl : row.length = l.length := by rw [hrow, List.length_map]
  have hrr : inR p row := fun x hx => by
    rw [hrow] at hx
    obtain ⟨y, -, rfl⟩ := List.mem_map.1 hx
    exact ⟨Int.emod_nonneg _ (by omega), Int.emod_lt_of_pos _ (by omega)⟩
  have hB := bmi_run hp hinv row
  refine afun (mu := muF) Tryd.func12 rfl (by decide) rfl (by decide) (Nat.le_of_ble_eq_true rfl) (by simp [nm0, AVal.at, AVal.at1, Cell.at]) (by simp [nm0, AVal.at, AVal.at1, Cell.at]) fun S hS => ?_
  repeat refine gN ?_
  ((first | refine zw1 ?_ | refine zw2 ?_ | refine zw3 ?_); refine s_call (c_prime p (by omega) (by omega)) ?_)
  rw [hpB]
  repeat refine gN ?_
  ((first | refine zw1 ?_ | refine zw2 ?_ | refine zw3 ?_); refine s_cmp (fun g => ?_) (fun g => ?_))
  · exact absurd g (by omega)
  repeat refine gN ?_
  have hp0 : 0 < p := by omega
  refine awp_midB (fun st => Weak st ⟨lk' [(3, pi64 p), (6, .fn 37 [.pim [.sc (.int .i64 p)]]), (7, .fn 38 [.pim [.sc (.int .i64 p)]]), (8, li row)], ov [] (pushS S)⟩) ?_ ?_
  ·
    refine awp_rep (fun i : Nat => ⟨lk' [(3, pi64 p), (6, .fn 37 [.pim [.sc (.int .i64 p)]]), (7, .fn 38 [.pim [.sc (.int .i64 p)]]), (8, .c (.win (.loc 38) 0 row.length row.length)), (39, li l), (40, iv l.length), (41, iv i)], ov [(.loc 38, .ints tL .i64 (row.take i ++ List.replicate (row.length - i) 0))] (pushS S)⟩)
      (fun i => i ≤ row.length) (fun i => row.length + 1 - i) 0 (by omega) ?_ ?_
    · (refine frz hS (by exact rfl) ?_ ?_; all_goals (repeat' (first | refine fF ?_ ?_ | refine fS ?_ ?_ | exact True.intro)); all_goals (try (first | exact kv | exact kFn1 | exact kQ | exact kQc | exact kIc | exact kFn0 | exact kOac | (refine kW (ov_of lks) rfl ?_ ?_))))
      · exact kO (by simp [hrl])
      · exact kFnP (ov_of lks) rfl
      · exact kFnP (ov_of lks) rfl
    intro i hi
    repeat refine gN ?_
    ((first | refine zw1 ?_ | refine zw2 ?_ | refine zw3 ?_); refine s_cmp (fun g2 => ?_) (fun g2 => ?_))
    · have hil : i < l.length := by omega
      obtain ⟨x, hx⟩ : ∃ x, l[i]? = some x := ⟨_, List.getElem?_eq_getElem hil⟩
      have hxr := hr x (List.mem_of_getElem? hx)
      have hxD : l.getD i 0 = x := by rw [List.getD_eq_getElem?_getD, hx]; rfl
      have hrD : row.getD i 0 = x % p := by rw [hrow, List.getD_eq_getElem?_getD, List.getElem?_map, hx]; rfl
      repeat refine gN ?_
      rw [show (i : Int).toNat = i by omega, hxD]
      repeat refine gN ?_
      ((first | refine zw1 ?_ | refine zw2 ?_ | refine zw3 ?_); refine s_callG (c_mod1 p x hp0 (by omega) hxr.1 hxr.2) ?_)
      repeat refine gN ?_
      rw [set_build (by omega) rfl hrD.symm]
      refine ⟨i + 1, ?_, by omega, by omega⟩
      (refine frz hS (by exact rfl) ?_ ?_; all_goals (repeat' (first | refine fF ?_ ?_ | refine fS ?_ ?_ | exact True.intro)); all_goals (try (first | exact kv | exact kFn1 | exact kQ | exact kQc | exact kIc | exact kFn0 | exact kOac | (refine kW (ov_of lks) rfl ?_ ?_))))
    · repeat refine gN ?_
      have : i = row.length := by omega
      subst this
      rw [List.take_length, Nat.sub_self, List.replicate_zero, List.append_nil]
      (refine frz hS (by exact rfl) ?_ ?_; all_goals (repeat' (first | refine fF ?_ ?_ | refine fS ?_ ?_ | exact True.intro)); all_goals (try (first | exact kv | exact kFn1 | exact kQ | exact kQc | exact kIc | exact kFn0 | exact kOac | (refine kW (ov_of lks) rfl ?_ ?_))))
      · simp
      · simp
  intro st hst
  refine awp_weak _ hst ?_
  clear hst st
  repeat refine gN ?_
  refine awp_midB (fun st => ∃ s, s = bmRun (invE p) row p row.length ∧ Weak st ⟨lk' [(3, pi64 p), (6, .fn 37 [.pim [.sc (.int .i64 p)]]), (8, li row), (11, .c (.win (.loc 53) 0 s.now.length s.now.length)), (13, iv s.size)], ov [(.loc 53, .ints tL .i64 s.now)] (pushS S)⟩) ?_ ?_
  · refine awp_weak _ ?_ (bm_l3 hS hp hp2 hco (by omega) hrr)
    (refine frz hS (by exact rfl) ?_ ?_; all_goals (repeat' (first | refine fF ?_ ?_ | refine fS ?_ ?_ | exact True.intro)); all_goals (try (first | exact kv | exact kFn1 | exact kQ | exact kQc | exact kIc | exact kFn0 | exact kOac | (refine kW (ov_of lks) rfl ?_ ?_))))
    · simp
    · rfl
  rintro st ⟨s, hs, hst⟩
  refine awp_weak _ hst ?_
  clear hst st
  have hI := hB row.length
  rw [← hs] at hI
  obtain ⟨b1, b2, b3, b4, b5⟩ := bm_bound hI
  have hsn := hI.r
  have hF : shortF p l = if l.length < 2 * s.size then ([], 340) else (outS s.now p s.size, 0) := by
    unfold shortF
    rw [← hrow, ← hrl, ← hs]
  rw [hF]
  repeat refine gN ?_
  ((first | refine zw1 ?_ | refine zw2 ?_ | refine zw3 ?_); refine s_cmp (fun g2 => ?_) (fun g2 => ?_))
  · rw [if_pos (by omega)]
    repeat refine gN ?_
    (refine endF ttOk (.inr rfl) hS (by exact rfl) ?_ (fl' := [(4, li []), (5, ivl .i64 340)]) (by exact rfl) (by exact rfl) (by exact rfl); (repeat' (first | refine fF ?_ ?_ | refine fS ?_ ?_ | exact True.intro); all_goals (try (first | exact kv | exact kFn1 | exact kQ | exact kQc | exact kIc | exact kFn0 | exact kOac | (refine kW (ov_of lks) rfl ?_ ?_)))))
  rw [if_neg (by omega)]
  have hol := outS_len s.now p s.size
  repeat refine gN ?_
  refine awp_midB (fun st => Weak st ⟨lk' [(24, .c (.win (.loc 152) 0 s.size s.size))], ov [(.loc 152, .ints tL .i64 (outS s.now p s.size))] (pushS S)⟩) ?_ ?_
  · refine awp_rep (fun i : Nat => ⟨lk' [(6, .fn 37 [.pim [.sc (.int .i64 p)]]), (11, .c (.win (.loc 53) 0 s.now.length s.now.length)), (24, .c (.win (.loc 152) 0 s.size s.size)), (153, iv s.size), (154, iv i)], ov [(.loc 152, .ints tL .i64 ((outS s.now p s.size).take i ++ List.replicate (s.size - i) 0)), (.loc 53, .ints tL .i64 s.now)] (pushS S)⟩)
      (fun i => i ≤ s.size) (fun i => s.size + 1 - i) 0 (Nat.zero_le _) ?_ ?_
    · (refine frz hS (by exact rfl) ?_ ?_; all_goals (repeat' (first | refine fF ?_ ?_ | refine fS ?_ ?_ | exact True.intro)); all_goals (try (first | exact kv | exact kFn1 | exact kQ | exact kQc | exact kIc | exact kFn0 | exact kOac | (refine kW (ov_of lks) rfl ?_ ?_))))
    intro i hi
    repeat refine gN ?_
    ((first | refine zw1 ?_ | refine zw2 ?_ | refine zw3 ?_); refine s_cmp (fun g3 => ?_) (fun g3 => ?_))
    · have hoi := outS_get (now := s.now) (p := p) (size := s.size) (i := i) (by omega)
      have hni := inR_get hp0 hsn (i + 1)
      repeat refine gN ?_
      ((first | refine zw1 ?_ | refine zw2 ?_ | refine zw3 ?_); refine s_cmp (fun g4 => ?_) (fun g4 => ?_))
      · repeat refine gN ?_
        rw [Int.zero_sub]
        ((first | refine zw1 ?_ | refine zw2 ?_ | refine zw3 ?_); refine s_callG (c_mod1 p (-(s.now.getD (i + 1) 0)) hp0 (by omega) (by omega) (by omega)) ?_)
        repeat refine gN ?_
        rw [set_build (by omega) (by omega) hoi.symm]
        refine ⟨i + 1, ?_, by omega, by omega⟩
        (refine frz hS (by exact rfl) ?_ ?_; all_goals (repeat' (first | refine fF ?_ ?_ | refine fS ?_ ?_ | exact True.intro)); all_goals (try (first | exact kv | exact kFn1 | exact kQ | exact kQc | exact kIc | exact kFn0 | exact kOac | (refine kW (ov_of lks) rfl ?_ ?_))))
      · have hoz : s.now.getD (i + 1) 0 = 0 := getD_out (by omega)
        rw [hoz, Int.neg_zero, Int.zero_emod] at hoi
        rw [skip_build (by omega) (by omega) hoi]
        repeat refine gN ?_
        refine ⟨i + 1, ?_, by omega, by omega⟩
        (refine frz hS (by exact rfl) ?_ ?_; all_goals (repeat' (first | refine fF ?_ ?_ | refine fS ?_ ?_ | exact True.intro)); all_goals (try (first | exact kv | exact kFn1 | exact kQ | exact kQc | exact kIc | exact kFn0 | exact kOac | (refine kW (ov_of lks) rfl ?_ ?_))))
    · repeat refine gN ?_
      have : i = s.size := by omega
      subst this
      rw [List.take_of_length_le (by omega), Nat.sub_self, List.replicate_zero, List.append_nil]
      (refine frz hS (by exact rfl) ?_ ?_; all_goals (repeat' (first | refine fF ?_ ?_ | refine fS ?_ ?_ | exact True.intro)); all_goals (try (first | exact kv | exact kFn1 | exact kQ | exact kQc | exact kIc | exact kFn0 | exact kOac | (refine kW (ov_of lks) rfl ?_ ?_))))
  intro st hst
  refine awp_weak _ hst ?_
  clear hst st
  repeat refine gN ?_
  (refine endF ttOk (.inr rfl) hS (by exact rfl) ?_ (fl' := [(4, li (outS s.now p s.size)), (5, ivl .i64 0)]) (by exact rfl) (by exact rfl) (by exact rfl); (repeat' (first | refine fF ?_ ?_ | refine fS ?_ ?_ | exact True.intro); all_goals (try (first | exact kv | exact kFn1 | exact kQ | exact kQc | exact kIc | exact kFn0 | exact kOac | (refine kW (ov_of lks) rfl ?_ ?_)))))
  · omega
  · rw [List.drop_zero, List.take_of_length_le (by omega)]
end Go.Proofs

/-
  Numbers that no number up to their root divides are prime to all below them.
-/
namespace Go.Proofs
open Go Go.Abs Go.Nums

def noDiv (p : Nat) : Nat → Nat → Nat → Bool
  | 0, lo, n => (List.range n).all fun i => p % (lo + i) != 0
  | f + 1, lo, n => if n ≤ 64 then (List.range n).all fun i => p % (lo + i) != 0 else noDiv p f lo (n / 2) && noDiv p f (lo + n / 2) (n - n / 2)
theorem noDiv_ok {p : Nat} : ∀ (f lo n : Nat), noDiv p f lo n = true → ∀ d, lo ≤ d → d < lo + n → p % d ≠ 0
  | 0, lo, n, h, d, h1, h2 => by
    have := List.all_eq_true.1 h (d - lo) (by simp; omega)
    rw [show lo + (d - lo) = d by omega] at this
    simpa using this
  | f + 1, lo, n, h, d, h1, h2 => by
    rw [noDiv] at h
    split at h
    · have := List.all_eq_true.1 h (d - lo) (by simp; omega)
      rw [show lo + (d - lo) = d by omega] at this
      simpa using this
    · rw [Bool.and_eq_true] at h
      by_cases hd : d < lo + n / 2
      · exact noDiv_ok f lo (n / 2) h.1 d h1 hd
      · exact noDiv_ok f (lo + n / 2) (n - n / 2) h.2 d (by omega) (by omega)
theorem prm_gcd {p f n : Nat} (h : noDiv p f 2 n = true) (hn : p < (n + 2) * (n + 2)) (x : Int) (h1 : 0 < x) (h2 : x < p) : Int.gcd x p = 1 := by
  have hno : ∀ d, 2 ≤ d → d < n + 2 → p % d ≠ 0 := fun d h3 h4 => noDiv_ok f 2 n h d h3 (by omega)
  obtain ⟨g, hg⟩ : ∃ g, g = Int.gcd x p := ⟨_, rfl⟩
  have hgx : g ∣ x.natAbs := by rw [hg]; exact Nat.gcd_dvd_left _ _
  have hgp : g ∣ p := by
    have : g ∣ (p : Int).natAbs := by rw [hg]; exact Nat.gcd_dvd_right _ _
    simpa using this
  have hgl : g ≤ x.natAbs := Nat.le_of_dvd (by omega) hgx
  obtain ⟨k, hk⟩ := hgp
  rw [← hg]
  refine Decidable.byContradiction fun hne => ?_
  have hg0 : g ≠ 0 := fun e => by rw [e, Nat.zero_mul] at hk; omega
  have hk1 : 2 ≤ k := by
    refine Nat.le_of_not_lt fun q => ?_
    have : g * k ≤ g * 1 := Nat.mul_le_mul_left _ (by omega)
    omega
  rcases Nat.lt_or_ge g (n + 2) with q | q
  · exact hno g (by omega) q (by rw [hk]; exact Nat.mul_mod_right _ _)
  · have : k < n + 2 := by
      refine Nat.lt_of_not_ge fun q2 => ?_
      have := Nat.mul_le_mul q q2
      omega
    exact hno k hk1 this (by rw [hk]; exact Nat.mul_mod_left _ _)
theorem gcd_2 : ∀ x : Int, 0 < x → x < 2 → Int.gcd x 2 = 1 := prm_gcd (p := 2) (f := 0) (n := 0) (by decide) (by decide)
theorem gcd_3 : ∀ x : Int, 0 < x → x < 3 → Int.gcd x 3 = 1 := prm_gcd (p := 3) (f := 0) (n := 0) (by decide) (by decide)
theorem gcd_5 : ∀ x : Int, 0 < x → x < 5 → Int.gcd x 5 = 1 := prm_gcd (p := 5) (f := 0) (n := 1) (by decide) (by decide)
theorem gcd_7 : ∀ x : Int, 0 < x → x < 7 → Int.gcd x 7 = 1 := prm_gcd (p := 7) (f := 0) (n := 1) (by decide) (by decide)
theorem gcd_11 : ∀ x : Int, 0 < x → x < 11 → Int.gcd x 11 = 1 := prm_gcd (p := 11) (f := 0) (n := 2) (by decide) (by decide)
theorem gcd_101 : ∀ x : Int, 0 < x → x < 101 → Int.gcd x 101 = 1 := prm_gcd (p := 101) (f := 0) (n := 9) (by decide) (by decide)
theorem gcd_65537 : ∀ x : Int, 0 < x → x < 65537 → Int.gcd x 65537 = 1 := prm_gcd (p := 65537) (f := 4) (n := 255) (by decide +kernel) (by decide)
theorem gcd_1000003 : ∀ x : Int, 0 < x → x < 1000003 → Int.gcd x 1000003 = 1 := prm_gcd (p := 1000003) (f := 6) (n := 999) (by decide +kernel) (by decide)
theorem gcd_2147483647 : ∀ x : Int, 0 < x → x < 2147483647 → Int.gcd x 2147483647 = 1 := prm_gcd (p := 2147483647) (f := 12) (n := 46340) (by decide +kernel) (by decide)
end Go.Proofs

/-
  recur: what the laws ask of primes and of one list, reckoned.
-/
namespace Go.Proofs
open Go Go.Abs Go.Nums
theorem pB_2 : primeB 2 = true := by decide +kernel
theorem pB_3 : primeB 3 = true := by decide +kernel
theorem pB_5 : primeB 5 = true := by decide +kernel
theorem pB_7 : primeB 7 = true := by decide +kernel
theorem pB_11 : primeB 11 = true := by decide +kernel
theorem pB_101 : primeB 101 = true := by decide +kernel
theorem pB_65537 : primeB 65537 = true := by decide +kernel
theorem pB_1000003 : primeB 1000003 = true := by decide +kernel
theorem pB_2147483647 : primeB 2147483647 = true := by decide +kernel
theorem short_awake : shortF 101 [0, 1, 1, 2, 3, 5, 8, 13] = ([1, 1], 0) := by decide +kernel
end Go.Proofs

/-
  Lists that a rule makes modulo a prime; what Shortest tells makes its list.
-/
namespace Go.Proofs
open Go Go.Abs Go.Nums

def sumG (b l : List Int) (p : Int) (i : Nat) : Nat → Int
  | 0 => 0
  | k + 1 => (sumG b l p i k + b.getD k 0 % p * l.getD (i - 1 - k) 0) % p
def goesF (f b : List Int) (p : Int) : Nat → List Int
  | 0 => []
  | n + 1 => goesF f b p n ++ [if n < b.length then f.getD n 0 % p else sumG b (goesF f b p n) p n b.length]
theorem goesF_len (f b : List Int) (p : Int) : ∀ n, (goesF f b p n).length = n
  | 0 => rfl
  | n + 1 => by rw [goesF, List.length_append, goesF_len f b p n]; rfl
theorem sumG_rng {b l : List Int} {p : Int} (hp : 0 < p) {i : Nat} : ∀ k, 0 ≤ sumG b l p i k ∧ sumG b l p i k < p
  | 0 => ⟨Int.le_refl _, hp⟩
  | k + 1 => ⟨Int.emod_nonneg _ (by omega), Int.emod_lt_of_pos _ hp⟩
theorem sumG_sum {b l : List Int} {p : Int} {i : Nat} : ∀ k, eqm p (sumG b l p i k) (sumN (fun k => b.getD k 0 * l.getD (i - 1 - k) 0) k)
  | 0 => rfl
  | k + 1 => (eqm_mod p _).trans (eqm_add (sumG_sum k) (eqm_mul (eqm_mod p _) rfl))
theorem goesF_rng {f b : List Int} {p : Int} (hp : 0 < p) : ∀ n, inR p (goesF f b p n)
  | 0 => fun x hx => by cases hx
  | n + 1 => fun x hx => by
    rw [goesF] at hx
    rcases List.mem_append.1 hx with h | h
    · exact goesF_rng hp n x h
    · simp only [List.mem_singleton] at h
      subst h
      split
      · exact ⟨Int.emod_nonneg _ (by omega), Int.emod_lt_of_pos _ hp⟩
      · exact sumG_rng hp _
theorem take_getD {l : List Int} {n i : Nat} (h : i < n) : (l.take n).getD i 0 = l.getD i 0 := by
  rw [List.getD_eq_getElem?_getD, List.getElem?_take_of_lt h, ← List.getD_eq_getElem?_getD]
theorem goes_same {p : Int} (hp : 0 < p) {row b f : List Int} (hr : inR p row) (hf : ∀ i, i < b.length → f.getD i 0 = row.getD i 0)
    (hg : ∀ m, b.length ≤ m → m < row.length → eqm p (row.getD m 0) (sumN (fun k => b.getD k 0 * row.getD (m - 1 - k) 0) b.length)) : ∀ n, n ≤ row.length → goesF f b p n = row.take n
  | 0, _ => rfl
  | n + 1, h => by
    have ih := goes_same hp hr hf hg n (by omega)
    have hn := inR_get hp hr n
    have e6 : row.take (n + 1) = row.take n ++ [row.getD n 0] := by
      rw [List.take_add_one, List.getD_eq_getElem?_getD, List.getElem?_eq_getElem (by omega)]; rfl
    rw [goesF, ih, e6]
    congr 2
    split
    · rename_i hb
      rw [hf n hb, Int.emod_eq_of_lt hn.1 hn.2]
    · rename_i hb
      have hs := sumG_rng (b := b) (l := row.take n) hp (i := n) b.length
      rw [← Int.emod_eq_of_lt hs.1 hs.2, ← Int.emod_eq_of_lt hn.1 hn.2]
      refine (sumG_sum b.length).trans ?_
      rw [sumN_congr (d := fun k => b.getD k 0 * row.getD (n - 1 - k) 0) fun k hk => by rw [take_getD (by omega)]]
      exact (hg n (by omega) (by omega)).symm
theorem short_makes {p : Int} (hp : 1 < p) (hco : ∀ x, 0 < x → x < p → Int.gcd x p = 1) {l b : List Int} (h : shortF p l = (b, 0)) :
    2 * b.length ≤ l.length ∧ inR p b ∧ goesF ((l.map (· % p)).take b.length) b p l.length = l.map (· % p) := by
  obtain ⟨s, hs⟩ : ∃ s, s = bmRun (invE p) (l.map (· % p)) p l.length := ⟨_, rfl⟩
  have hI := bmi_run hp (fun x h1 h2 => invE_ok hp (hco x h1 h2)) (l.map (· % p)) l.length
  rw [← hs] at hI
  unfold shortF at h
  simp only [← hs] at h
  split at h
  · cases h
  · rename_i hl
    have hb : outS s.now p s.size = b := (Prod.mk.inj h).1
    have hbl : b.length = s.size := by rw [← hb, outS_len]
    have hr : inR p (l.map (· % p)) := fun x hx => by
      obtain ⟨y, -, rfl⟩ := List.mem_map.1 hx
      exact ⟨Int.emod_nonneg _ (by omega), Int.emod_lt_of_pos _ (by omega)⟩
    refine ⟨by omega, by rw [← hb]; exact outS_rng (by omega) _, ?_⟩
    have := goes_same (p := p) (by omega) (row := l.map (· % p)) (b := b) (f := (l.map (· % p)).take b.length) hr (fun i hi => take_getD hi) (fun m h1 h2 => by
      rw [hbl] at h1 ⊢
      rw [List.length_map] at h2
      rw [← hb]
      exact out_gen hI.g h1 h2) l.length (by rw [List.length_map]; exact Nat.le_refl _)
    rw [this, List.take_of_length_le (by rw [List.length_map]; exact Nat.le_refl _)]
end Go.Proofs

/-
  Of a list that a rule makes Shortest tells a rule that is no longer; of the list gone on by it the same.
-/
namespace Go.Proofs
open Go Go.Abs Go.Nums

theorem goesF_pre (f b : List Int) (p : Int) (n : Nat) : ∀ k, (goesF f b p (n + k)).take n = goesF f b p n
  | 0 => List.take_of_length_le (by rw [goesF_len]; exact Nat.le_refl _)
  | k + 1 => by
    rw [← Nat.add_assoc, goesF, List.take_append_of_le_length (by rw [goesF_len]; omega), goesF_pre f b p n k]
theorem goesF_get {f b : List Int} {p : Int} {n m i : Nat} (h1 : i < n) (h2 : n ≤ m) : (goesF f b p m).getD i 0 = (goesF f b p n).getD i 0 := by
  obtain ⟨k, rfl⟩ := Nat.exists_eq_add_of_le h2
  rw [← goesF_pre f b p n k, take_getD h1]
theorem goesF_rule {f b : List Int} {p : Int} {N m : Nat} (h1 : b.length ≤ m) (h2 : m < N) : eqm p ((goesF f b p N).getD m 0) (sumN (fun k => b.getD k 0 * (goesF f b p N).getD (m - 1 - k) 0) b.length) := by
  have e : (goesF f b p N).getD m 0 = sumG b (goesF f b p m) p m b.length := by
    rw [goesF_get (n := m + 1) (by omega) (by omega), goesF, List.getD_eq_getElem?_getD, List.getElem?_append_right (by rw [goesF_len]; exact Nat.le_refl _), goesF_len, Nat.sub_self, if_neg (by omega)]
    rfl
  rw [e]
  refine (sumG_sum b.length).trans ?_
  rw [sumN_congr (d := fun k => b.getD k 0 * (goesF f b p N).getD (m - 1 - k) 0) fun k hk => by rw [goesF_get (n := m) (m := N) (by omega) (by omega)]]
def ruleC (b : List Int) : List Int := 1 :: b.map fun x => -x
theorem ruleC_get (b : List Int) (k : Nat) : (ruleC b).getD (k + 1) 0 = -(b.getD k 0) := by
  rw [ruleC, List.getD_cons_succ, List.getD_eq_getElem?_getD, List.getElem?_map, List.getD_eq_getElem?_getD]
  cases b[k]? <;> simp
theorem sumN_split (c : Nat → Int) : ∀ k, sumN c (k + 1) = c 0 + sumN (fun i => c (i + 1)) k
  | 0 => by simp [sumN]
  | k + 1 => by rw [sumN, sumN_split c k, sumN, Int.add_assoc]
theorem ruleC_gens {p : Int} {b : List Int} {a : Nat → Int} {n : Nat} (h : ∀ m, b.length ≤ m → m < n → eqm p (a m) (sumN (fun k => b.getD k 0 * a (m - 1 - k)) b.length)) : gens p (ruleC b) b.length a n := by
  refine ⟨rfl, by simp [ruleC], fun m h1 h2 => ?_⟩
  rw [atC_len (L := b.length) (by simp [ruleC]) h1, sumN_split]
  have e : sumN (fun i => (ruleC b).getD (i + 1) 0 * a (m - (i + 1))) b.length = -1 * sumN (fun k => b.getD k 0 * a (m - 1 - k)) b.length := by
    rw [← sumN_mul]
    refine sumN_congr fun i hi => ?_
    rw [ruleC_get, show m - (i + 1) = m - 1 - i by omega, Int.neg_mul, Int.neg_mul, Int.one_mul]
  rw [e, show (ruleC b).getD 0 0 = 1 from rfl, Int.one_mul, Nat.sub_zero]
  have := eqm_add (h m h1 h2) (rfl : eqm p (-1 * sumN (fun k => b.getD k 0 * a (m - 1 - k)) b.length) _)
  refine Eq.trans this ?_
  rw [show sumN (fun k => b.getD k 0 * a (m - 1 - k)) b.length + -1 * sumN (fun k => b.getD k 0 * a (m - 1 - k)) b.length = 0 by omega, Int.zero_emod]

theorem bm_stay {inv : Int → Int} {row : List Int} {p : Int} (hp : 0 < p) {N : Nat} : ∀ k, (∀ m, N ≤ m → m < N + k → atC (bmRun inv row p N).now (fun i => row.getD i 0) m % p = 0) →
    (bmRun inv row p (N + k)).now = (bmRun inv row p N).now ∧ (bmRun inv row p (N + k)).size = (bmRun inv row p N).size
  | 0, _ => ⟨rfl, rfl⟩
  | k + 1, h => by
    obtain ⟨h1, h2⟩ := bm_stay hp k fun m q1 q2 => h m q1 (by omega)
    rw [← Nat.add_assoc, bmRun]
    have h3 := h (N + k) (by omega) (by omega)
    rw [← h1, ← offS_eq hp] at h3
    unfold bmStep
    rw [if_pos h3]
    exact ⟨h1, h2⟩

theorem map_rng {p : Int} {l : List Int} (h : inR p l) : l.map (· % p) = l := by
  conv => rhs; rw [← List.map_id l]
  refine List.map_congr_left fun x hx => ?_
  exact Int.emod_eq_of_lt (h x hx).1 (h x hx).2

theorem short_least {p : Int} (hp : 1 < p) (hco : ∀ x, 0 < x → x < p → Int.gcd x p = 1) {f b : List Int} {N : Nat} (hN : 2 * b.length ≤ N) :
    ∃ r, shortF p (goesF f b p N) = (r, 0) ∧ r.length ≤ b.length ∧ ∀ k, shortF p (goesF ((goesF f b p N).take r.length) r p (N + k)) = (r, 0) := by
  have hinv : ∀ x, 0 < x → x < p → x * invE p x % p = 1 := fun x h1 h2 => invE_ok hp (hco x h1 h2)
  obtain ⟨l, hl⟩ : ∃ l, l = goesF f b p N := ⟨_, rfl⟩
  have hll : l.length = N := by rw [hl, goesF_len]
  have hlr : inR p l := by rw [hl]; exact goesF_rng (by omega) N
  obtain ⟨s, hs⟩ : ∃ s, s = bmRun (invE p) l p N := ⟨_, rfl⟩
  have hI := bmi_run hp hinv l N
  rw [← hs] at hI
  have hle : s.size ≤ b.length := hI.low b.length (ruleC b) (ruleC_gens fun m h1 h2 => by rw [hl]; exact goesF_rule h1 h2)
  obtain ⟨r, hr⟩ : ∃ r, r = outS s.now p s.size := ⟨_, rfl⟩
  have hrl : r.length = s.size := by rw [hr, outS_len]
  have hF : shortF p l = (r, 0) := by
    unfold shortF
    rw [map_rng hlr, hll, ← hs]
    simp only
    rw [if_neg (by omega), hr]
  rw [← hl]
  refine ⟨r, hF, by omega, fun k => ?_⟩
  obtain ⟨lo, hlo⟩ : ∃ lo, lo = goesF (l.take r.length) r p (N + k) := ⟨_, rfl⟩
  rw [← hlo]
  have hlol : lo.length = N + k := by rw [hlo, goesF_len]
  have hlor : inR p lo := by rw [hlo]; exact goesF_rng (by omega) _
  have hpre : lo.take N = l := by
    have h1 := (short_makes hp hco hF).2.2
    rw [map_rng hlr, hll] at h1
    rw [hlo, goesF_pre, h1]
  have hget : ∀ i, i < N → lo.getD i 0 = l.getD i 0 := fun i hi => by rw [← hpre, take_getD hi]
  have hsame : bmRun (invE p) lo p N = s := by rw [hs]; exact bmRun_congr N hget
  have hgen : ∀ m, N ≤ m → m < N + k → atC s.now (fun i => lo.getD i 0) m % p = 0 := fun m h1 h2 => by
    have h3 : eqm p (lo.getD m 0) (sumN (fun k => r.getD k 0 * lo.getD (m - 1 - k) 0) r.length) := by rw [hlo]; exact goesF_rule (by omega) h2
    have h4 := ruleC_gens (p := p) (b := r) (a := fun i => lo.getD i 0) (n := N + k) (fun m h1 h2 => by rw [hlo]; exact goesF_rule h1 h2)
    have h5 := h4.2.2 m (by omega) h2
    have e : eqm p (atC s.now (fun i => lo.getD i 0) m) (atC (ruleC r) (fun i => lo.getD i 0) m) := by
      rw [atC_len hI.g.2.1 (by omega), atC_len (L := s.size) (by simp [ruleC, hrl]) (by omega), sumN_split, sumN_split]
      refine eqm_add (by rw [hI.g.1]; rfl) (eqm_sum fun i hi => eqm_mul ?_ rfl)
      rw [ruleC_get, hr, outS_get hi]
      have := eqm_sub (rfl : eqm p 0 0) (eqm_mod p (-(s.now.getD (i + 1) 0)))
      rw [Int.zero_sub, Int.zero_sub, Int.neg_neg] at this
      exact this.symm
    exact e.trans h5
  obtain ⟨q1, q2⟩ := bm_stay (inv := invE p) (row := lo) (p := p) (by omega) k (by rw [hsame]; exact hgen)
  unfold shortF
  rw [map_rng hlor, hlol]
  simp only
  rw [q1, q2, hsame, if_neg (by omega), hr]
end Go.Proofs

/-
  What Shortest tells of a list hangs on its numbers modulo the prime alone; the list that RecurAny makes of another.
-/
namespace Go.Proofs
open Go Go.Abs Go.Nums

theorem shortF_congr {p : Int} {l m : List Int} (h : l.map (· % p) = m.map (· % p)) : shortF p l = shortF p m := by
  have hl : l.length = m.length := by
    have := congrArg List.length h
    simpa using this
  unfold shortF
  rw [h, hl]
def likeF (p : Int) (l : List Int) : Nat → List Int
  | 0 => []
  | i + 1 => likeF p l i ++ [l.getD i 0 % p - p * ((i % 5 : Nat) : Int)]
theorem likeF_len (p : Int) (l : List Int) : ∀ n, (likeF p l n).length = n
  | 0 => rfl
  | n + 1 => by rw [likeF, List.length_append, likeF_len p l n]; rfl
theorem likeF_map {p : Int} {l : List Int} : ∀ n, n ≤ l.length → (likeF p l n).map (· % p) = (l.map (· % p)).take n
  | 0, _ => rfl
  | n + 1, h => by
    have e : (l.map (· % p)).take (n + 1) = (l.map (· % p)).take n ++ [l.getD n 0 % p] := by
      rw [List.take_add_one, List.getElem?_map, List.getD_eq_getElem?_getD, List.getElem?_eq_getElem (by omega)]; rfl
    rw [likeF, List.map_append, likeF_map n (by omega), e, List.map_singleton]
    congr 2
    show (l.getD n 0 % p - p * ((n % 5 : Nat) : Int)) % p = l.getD n 0 % p
    rw [Int.sub_mul_emod_self_left, Int.emod_emod]
theorem likeF_short {p : Int} {l : List Int} : shortF p (likeF p l l.length) = shortF p l :=
  shortF_congr (by rw [likeF_map _ (Nat.le_refl _), List.take_of_length_le (by rw [List.length_map]; exact Nat.le_refl _)])
theorem likeF_rng {p : Int} (h1 : 1 < p) (h2 : p < 2147483648) {l : List Int} : ∀ n, ∀ x ∈ likeF p l n, -9223372036854775808 ≤ x ∧ x < 9223372036854775808
  | 0 => fun x hx => by cases hx
  | n + 1 => fun x hx => by
    rw [likeF] at hx
    rcases List.mem_append.1 hx with h | h
    · exact likeF_rng h1 h2 n x h
    · simp only [List.mem_singleton] at h
      subst h
      have e1 := Int.emod_nonneg (l.getD n 0) (show p ≠ 0 by omega)
      have e2 := Int.emod_lt_of_pos (l.getD n 0) (show 0 < p by omega)
      have e3 : n % 5 ≤ 4 := by omega
      have e4 : p * ((n % 5 : Nat) : Int) ≤ p * 4 := Int.mul_le_mul_of_nonneg_left (by omega) (by omega)
      have e5 : 0 ≤ p * ((n % 5 : Nat) : Int) := Int.mul_nonneg (by omega) (by omega)
      omega
theorem shortF_err (p : Int) (l : List Int) : (shortF p l).2 = 0 ∨ shortF p l = ([], 340) := by
  unfold shortF
  simp only
  split
  · exact .inr rfl
  · exact .inl rfl
end Go.Proofs

/-
  The laws of recur: awake.
-/
-- kv2
namespace Go.Proofs
open Go Go.Abs Go.Nums
attribute [local irreducible] thenA blockA awp aw Stp EndF EndP EndN EndG aOps aOpsM scopeA
set_option linter.unusedSimpArgs false
set_option linter.unusedVariables false
set_option maxHeartbeats 4000000

theorem ext_awake : extN [1, 1] 9 [0, 1] = some [0, 1, 1, 2, 3, 5, 8, 13, 21, 34, 55] := by decide +kernel
theorem mod_awake : modR [0, 1] [1, 1] 7 10 (blen 10) = 6 := by decide +kernel
theorem lims_small {l : List Int} (h : ∀ x ∈ l, x.natAbs < 18446744073709551616) : lims 4096 l := fun x hx => Nat.le_trans (lim1 (K := 1) (by decide) (h x hx)) (by decide)

theorem c_samelongsP (z : Nm) (a b : List Int) (ha : a.length < 2 ^ 60) (hb : b.length < 2 ^ 60) : AProc Tryd.prog 13 [li a, .c (.win z 0 b.length b.length)] [(z, .ints 2 .i64 b)] [(z, .ints 2 .i64 b)] (bvl (decide (a = b))) := by
  obtain ⟨R, hR⟩ : ∃ R, R = decide (a = b) := ⟨_, rfl⟩
  rw [← hR]
  (refine aproc1 (mu := muF) Tryd.func13 rfl (by decide) rfl (by decide) (Nat.le_of_ble_eq_true rfl) (by simp [AVal.at, AVal.at1, Cell.at]) (by simp [AVal.at, AVal.at1, Cell.at]) (by simp [AVal.at, AVal.at1, Cell.at]) (by first | exact cells_nmZ | exact cells_nmF | exact cells_nm0 | exact ints_nm0 | (intro x hx m; simp [AObj.cls] at hx; rcases hx with rfl | rfl <;> first | exact fun h => h | exact Leaf.cell_nm _ _)) (by first | exact cells_nmZ | exact cells_nmF | exact cells_nm0 | exact ints_nm0 | (intro x hx m; simp [AObj.cls] at hx; rcases hx with rfl | rfl <;> first | exact fun h => h | exact Leaf.cell_nm _ _)) fun S hS => ?_; simp only [List.map_cons, List.map_nil, AVal.map, AVal.map1, Cell.map])
  repeat refine gN ?_
  ((first | refine zw1 ?_ | refine zw2 ?_ | refine zw3 ?_); refine s_cmp (fun g => ?_) (fun g => ?_))
  · have e1 : R = false := by rw [hR]; exact decide_eq_false fun e => g (by rw [e])
    rw [e1]
    repeat refine gN ?_
    (refine endP1 ttOk (fl' := [(4, bvl false)]) (.inr rfl) hS lks (by first | exact cells_nmZ | exact cells_nmF | exact cells_nm0 | exact ints_nm0 | (intro x hx m; simp [AObj.cls] at hx; rcases hx with rfl | rfl <;> first | exact fun h => h | exact Leaf.cell_nm _ _)) (by intro m hm; simp [lkS, addL, delL, Nm.isLoc, hm]) ?_ ?_ (by exact rfl) (by exact rfl) (by exact rfl))
    · rfl
    · (repeat' (first | refine fF ?_ ?_ | refine fS ?_ ?_ | exact True.intro); all_goals (try (first | exact kv | exact kQ | exact kQc | exact kIc | exact kFn0 | exact kOac | (refine kW (ov_of lks) rfl ?_ ?_))))
  have hab : a.length = b.length := by omega
  repeat refine gN ?_
  refine awp_rep (fun i : Nat => ⟨lk' [(0, li a), (1, .c (.win (.out z) 0 b.length b.length)), (5, iv i)], ov [(.out z, .ints 2 .i64 b)] (pushS S)⟩) (fun i => i ≤ a.length ∧ ∀ j, j < i → a.getD j 0 = b.getD j 0) (fun i => a.length + 1 - i) 0 ⟨Nat.zero_le _, fun j hj => by omega⟩ ?_ ?_
  · (refine frz hS (by exact rfl) ?_ ?_; all_goals (repeat' (first | refine fF ?_ ?_ | refine fS ?_ ?_ | exact True.intro)); all_goals (try (first | exact kv | exact kQ | exact kQc | exact kIc | exact kFn0 | exact kOac | (refine kW (ov_of lks) rfl ?_ ?_))))
  rintro i ⟨hi, hs⟩
  repeat refine gN ?_
  ((first | refine zw1 ?_ | refine zw2 ?_ | refine zw3 ?_); refine s_cmp (fun g2 => ?_) (fun g2 => ?_))
  rotate_left
  · have : i = a.length := by omega
    have e : a = b := by
      refine List.ext_getElem? fun j => ?_
      by_cases hj : j < a.length
      · have := hs j (by omega)
        rw [List.getD_eq_getElem?_getD, List.getD_eq_getElem?_getD, List.getElem?_eq_getElem hj, List.getElem?_eq_getElem (by omega)] at this
        rw [List.getElem?_eq_getElem hj, List.getElem?_eq_getElem (by omega)]
        exact congrArg some this
      · rw [List.getElem?_eq_none (by omega), List.getElem?_eq_none (by omega)]
    have e1 : R = true := by rw [hR]; exact decide_eq_true e
    rw [e1]
    repeat refine gN ?_
    (refine endP1 ttOk (fl' := [(4, bvl true)]) (.inr rfl) hS lks (by first | exact cells_nmZ | exact cells_nmF | exact cells_nm0 | exact ints_nm0 | (intro x hx m; simp [AObj.cls] at hx; rcases hx with rfl | rfl <;> first | exact fun h => h | exact Leaf.cell_nm _ _)) (by intro m hm; simp [lkS, addL, delL, Nm.isLoc, hm]) ?_ ?_ (by exact rfl) (by exact rfl) (by exact rfl))
    · rfl
    · (repeat' (first | refine fF ?_ ?_ | refine fS ?_ ?_ | exact True.intro); all_goals (try (first | exact kv | exact kQ | exact kQc | exact kIc | exact kFn0 | exact kOac | (refine kW (ov_of lks) rfl ?_ ?_))))
  repeat refine gN ?_
  ((first | refine zw1 ?_ | refine zw2 ?_ | refine zw3 ?_); refine s_cmp (fun g3 => ?_) (fun g3 => ?_))
  · have e1 : R = false := by
      rw [hR]
      refine decide_eq_false fun e => g3 ?_
      rw [e]
      simp
    rw [e1]
    repeat refine gN ?_
    (refine endP1 ttOk (fl' := [(4, bvl false)]) (.inr rfl) hS lks (by first | exact cells_nmZ | exact cells_nmF | exact cells_nm0 | exact ints_nm0 | (intro x hx m; simp [AObj.cls] at hx; rcases hx with rfl | rfl <;> first | exact fun h => h | exact Leaf.cell_nm _ _)) (by intro m hm; simp [lkS, addL, delL, Nm.isLoc, hm]) ?_ ?_ (by exact rfl) (by exact rfl) (by exact rfl))
    · rfl
    · (repeat' (first | refine fF ?_ ?_ | refine fS ?_ ?_ | exact True.intro); all_goals (try (first | exact kv | exact kQ | exact kQc | exact kIc | exact kFn0 | exact kOac | (refine kW (ov_of lks) rfl ?_ ?_))))
  repeat refine gN ?_
  refine ⟨i + 1, ?_, ⟨by omega, fun j hj => ?_⟩, by omega⟩
  · (refine frz hS (by exact rfl) ?_ ?_; all_goals (repeat' (first | refine fF ?_ ?_ | refine fS ?_ ?_ | exact True.intro)); all_goals (try (first | exact kv | exact kQ | exact kQc | exact kIc | exact kFn0 | exact kOac | (refine kW (ov_of lks) rfl ?_ ?_))))
  · rcases Nat.lt_or_ge j i with q | q
    · exact hs j q
    · have : j = i := by omega
      subst this
      have := Decidable.not_not.1 g3
      simpa using this

theorem c_awakeR : AFun Tryd.prog 14 [] (bvl true) := by
  have l01 : lims 4096 [0, 1] := lims_small (by decide)
  have l11 : lims 4096 [1, 1] := lims_small (by decide)
  have r01 : allR ([0, 1].map zp) = true := by decide +kernel
  have r11 : allR ([1, 1].map zp) = true := by decide +kernel
  have hT : AFun Tryd.prog 7 [zsq [0, 1], zsq [1, 1], ivl .i64 10] (.tup [wz 55, ivl .i64 0]) :=
    c_term [0, 1] [1, 1] 10 _ (by simp [nm0, AVal.at, AVal.at1, Cell.at]) rfl (by decide) (by decide) (by decide) l01 l11 r01 r11 (by
      rw [show (10 + 1 - [(0 : Int), 1].length) = 9 from rfl, ext_awake]
      rfl)
  have hM : AFun Tryd.prog 11 [zsq [0, 1], zsq [1, 1], wi false (digs B 10), wi false (digs B 7)] (.tup [wz 6, ivl .i64 0]) := by
    have := c_recmod [0, 1] [1, 1] 10 7 rfl (by decide) (by decide) (Nat.le_trans ((digs_len hB (k := 1)).2 (by decide)) (by decide)) ((digs_len hB (k := 1)).2 (by decide)) l01 l11 r01 r11 (by decide +kernel)
    rw [show ((7 : Nat) : Int) = 7 from rfl, mod_awake] at this
    exact this
  have hSh : AFun Tryd.prog 12 [li [0, 1, 1, 2, 3, 5, 8, 13], ivl .i64 101] (.tup [li [1, 1], ivl .i64 0]) := by
    have := c_shortrow [0, 1, 1, 2, 3, 5, 8, 13] 101 (by decide) (by decide) pB_101 gcd_101 (by decide) (by decide)
    rw [short_awake] at this
    exact this
  have hI1 : AFun Tryd.prog 9 [wz 55, ivl .i64 0, vz 55, ivl .i64 0] (bvl true) := by
    have := c_lawis (decide ((55 : Int) < 0)) (decide ((55 : Int) < 0)) (digs B (55 : Int).natAbs) (digs B (55 : Int).natAbs) 0 0 (Nat.lt_of_le_of_lt ((digs_len hB (n := 55) (k := 1)).2 (by decide)) (by decide)) (Nat.lt_of_le_of_lt ((digs_len hB (n := 55) (k := 1)).2 (by decide)) (by decide))
    rw [decide_eq_true (show _ ∧ _ ∧ _ from ⟨rfl, rfl, rfl⟩)] at this
    exact this
  have hI2 : AFun Tryd.prog 9 [wz 6, ivl .i64 0, vz 6, ivl .i64 0] (bvl true) := by
    have := c_lawis (decide ((6 : Int) < 0)) (decide ((6 : Int) < 0)) (digs B (6 : Int).natAbs) (digs B (6 : Int).natAbs) 0 0 (Nat.lt_of_le_of_lt ((digs_len hB (n := 6) (k := 1)).2 (by decide)) (by decide)) (Nat.lt_of_le_of_lt ((digs_len hB (n := 6) (k := 1)).2 (by decide)) (by decide))
    rw [decide_eq_true (show _ ∧ _ ∧ _ from ⟨rfl, rfl, rfl⟩)] at this
    exact this
  have hL : AFun Tryd.prog 13 [li [1, 1], li [1, 1]] (bvl true) := by
    have := c_samelongs [1, 1] [1, 1] (by decide) (by decide)
    rw [decide_eq_true (show [(1 : Int), 1] = [1, 1] from rfl)] at this
    exact this
  refine afun (mu := muF) Tryd.func14 rfl (by decide) rfl (by decide) (Nat.le_of_ble_eq_true rfl) (by simp [nm0, AVal.at, AVal.at1, Cell.at]) (by simp [nm0, AVal.at, AVal.at1, Cell.at]) fun S hS => ?_
  repeat refine gN ?_
  ((first | refine aw_fz 8 ?_ ?_ | refine awp_fz 8 ?_ ?_); rotate_left; · (repeat' (first | exact True.intro | refine And.intro ?_ ?_)) <;> first | (show _ ≤ _; simp; done) | (show _ ≤ _; simp; omega) | (show _ ≤ _; omega))
  ((first | refine zw1 ?_ | refine zw2 ?_ | refine zw3 ?_); refine s_call (c_lawsmall [0, 1] (by decide) (by decide)) ?_)
  repeat refine gN ?_
  ((first | refine aw_fz 10 ?_ ?_ | refine awp_fz 10 ?_ ?_); rotate_left; · (repeat' (first | exact True.intro | refine And.intro ?_ ?_)) <;> first | (show _ ≤ _; simp; done) | (show _ ≤ _; simp; omega) | (show _ ≤ _; omega))
  ((first | refine zw1 ?_ | refine zw2 ?_ | refine zw3 ?_); refine s_call (c_lawsmall [1, 1] (by decide) (by decide)) ?_)
  repeat refine gN ?_
  ((first | refine zw1 ?_ | refine zw2 ?_ | refine zw3 ?_); refine s_call (hT) ?_)
  repeat refine gN ?_
  ((first | refine aw_fz 16 ?_ ?_ | refine awp_fz 16 ?_ ?_); rotate_left; · (repeat' (first | exact True.intro | refine And.intro ?_ ?_)) <;> first | (show _ ≤ _; simp; done) | (show _ ≤ _; simp; omega) | (show _ ≤ _; omega))
  ((first | refine zw1 ?_ | refine zw2 ?_ | refine zw3 ?_); refine s_call (c_lawsmall [0, 1] (by decide) (by decide)) ?_)
  repeat refine gN ?_
  ((first | refine aw_fz 18 ?_ ?_ | refine awp_fz 18 ?_ ?_); rotate_left; · (repeat' (first | exact True.intro | refine And.intro ?_ ?_)) <;> first | (show _ ≤ _; simp; done) | (show _ ≤ _; simp; omega) | (show _ ≤ _; omega))
  ((first | refine zw1 ?_ | refine zw2 ?_ | refine zw3 ?_); refine s_call (c_lawsmall [1, 1] (by decide) (by decide)) ?_)
  repeat refine gN ?_
  ((first | refine zw1 ?_ | refine zw2 ?_ | refine zw3 ?_); refine s_call (c_smallZ 10 (by decide) (by decide)) ?_)
  repeat refine gN ?_
  ((first | refine zw1 ?_ | refine zw2 ?_ | refine zw3 ?_); refine s_call (c_smallZ 7 (by decide) (by decide)) ?_)
  repeat refine gN ?_
  ((first | refine zw1 ?_ | refine zw2 ?_ | refine zw3 ?_); refine s_call (hM) ?_)
  repeat refine gN ?_
  ((first | refine aw_fz 26 ?_ ?_ | refine awp_fz 26 ?_ ?_); rotate_left; · (repeat' (first | exact True.intro | refine And.intro ?_ ?_)) <;> first | (show _ ≤ _; simp; done) | (show _ ≤ _; simp; omega) | (show _ ≤ _; omega))
  ((first | refine zw1 ?_ | refine zw2 ?_ | refine zw3 ?_); refine s_call (hSh) ?_)
  repeat refine gN ?_
  ((first | refine zw1 ?_ | refine zw2 ?_ | refine zw3 ?_); refine s_call (c_smallZ 55 (by decide) (by decide)) ?_)
  repeat refine gN ?_
  ((first | refine zw1 ?_ | refine zw2 ?_ | refine zw3 ?_); refine s_call (hI1) ?_)
  repeat refine gN ?_
  try refine stp_gT (by exact rfl) (by exact rfl) ?_
  ((first | refine zw1 ?_ | refine zw2 ?_ | refine zw3 ?_); refine s_call (c_smallZ 6 (by decide) (by decide)) ?_)
  repeat refine gN ?_
  try refine stp_gT (by exact rfl) (by exact rfl) ?_
  ((first | refine zw1 ?_ | refine zw2 ?_ | refine zw3 ?_); refine s_call (hI2) ?_)
  repeat refine gN ?_
  try refine stp_gT (by exact rfl) (by exact rfl) ?_
  refine s_cmp (fun g => ?_) (fun g => absurd rfl g)
  repeat refine gN ?_
  try refine stp_gT (by exact rfl) (by exact rfl) ?_
  repeat refine gN ?_
  ((first | refine zw1 ?_ | refine zw2 ?_ | refine zw3 ?_); refine s_read ((c_samelongsP (.loc 46) [1, 1] [1, 1] (by decide) (by decide)).read ⟨_, List.mem_cons_of_mem _ List.mem_cons_self, rfl⟩) ?_ (by intro p hp; first | (simp only [List.mem_singleton] at hp; subst hp; exact lks) | (simp only [List.mem_cons, List.not_mem_nil, or_false] at hp; rcases hp with rfl | rfl <;> exact lks)))
  rw [decide_eq_true (show [(1 : Int), 1] = [1, 1] from rfl)]
  repeat refine gN ?_
  (refine endF ttOk (.inr rfl) hS (by exact rfl) ?_ (fl' := [(0, bvl true)]) (by exact rfl) (by exact rfl) (by exact rfl); (repeat' (first | refine fF ?_ ?_ | refine fS ?_ ?_ | exact True.intro); all_goals (try (first | exact kv | exact kQ | exact kQc | exact kIc | exact kFn0 | exact kOac | (refine kW (ov_of lks) rfl ?_ ?_)))))
end Go.Proofs

/-
  The laws of recur: primes, goes.
-/
-- kv2
namespace Go.Proofs
open Go Go.Abs Go.Nums
attribute [local irreducible] thenA blockA awp aw Stp EndF EndP EndN EndG aOps aOpsM scopeA
set_option linter.unusedSimpArgs false
set_option linter.unusedVariables false
set_option maxHeartbeats 4000000

def nineP : List Int := [2, 3, 5, 7, 11, 101, 65537, 1000003, 2147483647]
def primeK (k : Int) : Int := nineP.getD (k % 9).toNat 0
structure POk (p : Int) : Prop where
  one : 1 < p
  top : p < 2147483648
  pB : primeB p = true
  co : ∀ x, 0 < x → x < p → Int.gcd x p = 1
theorem nineP_ok : ∀ n, n < 9 → POk (nineP.getD n 0)
  | 0, _ => ⟨by decide, by decide, pB_2, gcd_2⟩
  | 1, _ => ⟨by decide, by decide, pB_3, gcd_3⟩
  | 2, _ => ⟨by decide, by decide, pB_5, gcd_5⟩
  | 3, _ => ⟨by decide, by decide, pB_7, gcd_7⟩
  | 4, _ => ⟨by decide, by decide, pB_11, gcd_11⟩
  | 5, _ => ⟨by decide, by decide, pB_101, gcd_101⟩
  | 6, _ => ⟨by decide, by decide, pB_65537, gcd_65537⟩
  | 7, _ => ⟨by decide, by decide, pB_1000003, gcd_1000003⟩
  | 8, _ => ⟨by decide, by decide, pB_2147483647, gcd_2147483647⟩
  | n + 9, h => absurd h (by omega)
theorem primeK_ok (k : Int) : POk (primeK k) := nineP_ok _ (by omega)

theorem c_primes (k : Int) : AFun Tryd.prog 18 [ivl .i64 k] (ivl .i64 (primeK k)) := by
  have h1 := Int.emod_nonneg k (show (9 : Int) ≠ 0 by decide)
  have h2 := Int.emod_lt_of_pos k (show (0 : Int) < 9 by decide)
  obtain ⟨n, hn⟩ : ∃ n : Nat, k % 9 = (n : Int) := ⟨_, (Int.toNat_of_nonneg h1).symm⟩
  have hn9 : n < 9 := by omega
  have hp : primeK k = nineP.getD n 0 := by rw [primeK, hn]; rfl
  have hpk : AFun Tryd.prog 20 [ivl .i64 k, iv 9] (iv n) := by
    have := c_pick k 9 (by decide) (by decide)
    rw [show ((9 : Nat) : Int) = 9 from rfl, hn] at this
    exact this
  refine afun (mu := muF) Tryd.func18 rfl (by decide) rfl (by decide) (Nat.le_of_ble_eq_true rfl) (by simp [nm0, AVal.at, AVal.at1, Cell.at]) (by simp [nm0, AVal.at, AVal.at1, Cell.at]) fun S hS => ?_
  repeat refine gN ?_
  ((first | refine zw1 ?_ | refine zw2 ?_ | refine zw3 ?_); refine s_call (hpk) ?_)
  repeat refine gN ?_
  (refine endF ttOk (.inr rfl) hS (by exact rfl) ?_ (fl' := [(2, ivl .i64 (primeK k))]) (by exact rfl) (by exact rfl) (by exact rfl); (repeat' (first | refine fF ?_ ?_ | refine fS ?_ ?_ | exact True.intro); all_goals (try (first | exact kv | exact kQ | exact kQc | exact kIc | exact kFn0 | exact kOac | (refine kW (ov_of lks) rfl ?_ ?_)))))
  exact kN hp.symm

theorem c_goes (f b : List Int) (n : Nat) (p : Int) (hp : 1 < p) (hp2 : p < 2147483648) (hf : ∀ x ∈ f, -9223372036854775808 ≤ x ∧ x < 9223372036854775808) (hb : ∀ x ∈ b, -9223372036854775808 ≤ x ∧ x < 9223372036854775808)
    (hbf : b.length ≤ f.length ∨ n ≤ f.length) (hbl : b.length < 2 ^ 40) (hn : n < 2 ^ 40) :
    AFun Tryd.prog 19 [li f, li b, iv n, ivl .i64 p] (li (goesF f b p n)) := by
  have hp0 : 0 < p := by omega
  have hmul := mul_p hp2
  refine afun (mu := muF) Tryd.func19 rfl (by decide) rfl (by decide) (Nat.le_of_ble_eq_true rfl) (by simp [nm0, AVal.at, AVal.at1, Cell.at]) (by simp [nm0, AVal.at, AVal.at1, Cell.at]) fun S hS => ?_
  repeat refine gN ?_
  refine awp_rep (fun i : Nat => ⟨lk' [(0, li f), (1, li b), (2, iv n), (3, ivl .i64 p), (9, .accv (.loc 34) i), (10, iv i)], ov [(.loc 34, .accI 2 .i64 (goesF f b p i))] (pushS S)⟩) (fun i => i ≤ n) (fun i => n + 1 - i) 0 (Nat.zero_le _) ?_ ?_
  · (refine frz hS (by exact rfl) ?_ ?_; all_goals (repeat' (first | refine fF ?_ ?_ | refine fS ?_ ?_ | exact True.intro)); all_goals (try (first | exact kv | exact kQ | exact kQc | exact kIc | exact kFn0 | exact kOac | (refine kW (ov_of lks) rfl ?_ ?_))))
    · exact ⟨.inr ⟨fun _ h => (by cases (show none = some _ from h)), _, _, rfl⟩, trivial⟩
    · exact .nilA (ov_of rfl)
  intro i hi
  have hL := goesF_len f b p i
  have hr := goesF_rng (f := f) (b := b) hp0 i
  repeat refine gN ?_
  ((first | refine zw1 ?_ | refine zw2 ?_ | refine zw3 ?_); refine s_cmp (fun g => ?_) (fun g => ?_))
  rotate_left
  · repeat refine gN ?_
    have : i = n := by omega
    subst this
    (refine endF ttOk (.inr rfl) hS (by exact rfl) ?_ (fl' := [(8, li (goesF f b p i))]) (by exact rfl) (by exact rfl) (by exact rfl); (repeat' (first | refine fF ?_ ?_ | refine fS ?_ ?_ | exact True.intro); all_goals (try (first | exact kv | exact kQ | exact kQc | exact kIc | exact kFn0 | exact kOac | (refine kW (ov_of lks) rfl ?_ ?_)))))
    exact .accI (ov_of lks) rfl
  repeat refine gN ?_
  ((first | refine zw1 ?_ | refine zw2 ?_ | refine zw3 ?_); refine s_cmp (fun g2 => ?_) (fun g2 => ?_))
  · have hif : i < f.length := by omega
    obtain ⟨x, hx⟩ : ∃ x, f[i]? = some x := ⟨_, List.getElem?_eq_getElem hif⟩
    have hxr := hf x (List.mem_of_getElem? hx)
    have hxD : f.getD i 0 = x := by rw [List.getD_eq_getElem?_getD, hx]; rfl
    have h3 := Int.tmod_lt_of_pos x hp0
    have h4 := Int.lt_tmod_of_pos x hp0
    have h6 : (x.tmod p + p) % p = x % p := by rw [← Int.tmod_eq_emod_of_nonneg (by omega), tmod2 hp0]
    have hg : goesF f b p (i + 1) = goesF f b p i ++ [x % p] := by
      rw [goesF, if_pos (by omega), hxD]
    repeat refine gN ?_
    rw [show (i : Int).toNat = i by omega, hxD]
    refine zw1 (stp_remI ?_ (h := by omega))
    repeat refine gN ?_
    rw [h6]
    repeat refine gN ?_
    refine zw1 (s_app8 ttOk (Y := [x % p]) ?_ ?_ ?_ (hn := hL))
    · exact srcE_win (L := [x % p]) lks (by simp)
    · rw [hL]; simp; omega
    repeat refine gN ?_
    refine ⟨i + 1, ?_, by omega, by omega⟩
    rw [hg]
    (refine frz hS (by exact rfl) ?_ ?_; all_goals (repeat' (first | refine fF ?_ ?_ | refine fS ?_ ?_ | exact True.intro)); all_goals (try (first | exact kv | exact kQ | exact kQc | exact kIc | exact kFn0 | exact kOac | (refine kW (ov_of lks) rfl ?_ ?_))))
  · repeat refine gN ?_
    refine awp_midB (fun st => Weak st ⟨lk' [(0, li f), (1, li b), (2, iv n), (3, ivl .i64 p), (9, .accv (.loc 34) i), (10, iv i), (11, ivl .i64 (sumG b (goesF f b p i) p i b.length))], ov [(.loc 34, .accI 2 .i64 (goesF f b p i))] (pushS S)⟩) ?_ ?_
    · refine awp_rep (fun k : Nat => ⟨lk' [(0, li f), (1, li b), (2, iv n), (3, ivl .i64 p), (9, .accv (.loc 34) i), (10, iv i), (11, ivl .i64 (sumG b (goesF f b p i) p i k)), (12, iv k)], ov [(.loc 34, .accI 2 .i64 (goesF f b p i))] (pushS S)⟩) (fun k => k ≤ b.length) (fun k => b.length + 1 - k) 0 (Nat.zero_le _) ?_ ?_
      · (refine frz hS (by exact rfl) ?_ ?_; all_goals (repeat' (first | refine fF ?_ ?_ | refine fS ?_ ?_ | exact True.intro)); all_goals (try (first | exact kv | exact kQ | exact kQc | exact kIc | exact kFn0 | exact kOac | (refine kW (ov_of lks) rfl ?_ ?_))))
      intro k hk
      have hs := sumG_rng (b := b) (l := goesF f b p i) hp0 (i := i) k
      repeat refine gN ?_
      ((first | refine zw1 ?_ | refine zw2 ?_ | refine zw3 ?_); refine s_cmp (fun g3 => ?_) (fun g3 => ?_))
      · obtain ⟨y, hy⟩ : ∃ y, b[k]? = some y := ⟨_, List.getElem?_eq_getElem (by omega)⟩
        have hyr := hb y (List.mem_of_getElem? hy)
        have hyD : b.getD k 0 = y := by rw [List.getD_eq_getElem?_getD, hy]; rfl
        have h3 := Int.tmod_lt_of_pos y hp0
        have h4 := Int.lt_tmod_of_pos y hp0
        have h6 : (y.tmod p + p) % p = y % p := by rw [← Int.tmod_eq_emod_of_nonneg (by omega), tmod2 hp0]
        have h7 : 0 ≤ y % p ∧ y % p < p := ⟨Int.emod_nonneg _ (by omega), Int.emod_lt_of_pos _ hp0⟩
        repeat refine gN ?_
        rw [show (k : Int).toNat = k by omega, hyD]
        refine zw2 (stp_remI ?_ (h := by omega))
        repeat refine gN ?_
        rw [h6]
        have hm := hmul _ _ h7 (inR_get hp0 hr (i - 1 - k))
        have hg : sumG b (goesF f b p i) p i (k + 1) = (sumG b (goesF f b p i) p i k + y % p * (goesF f b p i).getD (i - 1 - k) 0) % p := by rw [sumG, hyD]
        repeat refine gN ?_
        rw [show ((i : Int) - 1 - k).toNat = i - 1 - k by omega]
        refine zw2 (za1 ttOk ?_ (hj := by rw [hL]; omega))
        repeat refine gN ?_
        rw [← hg]
        refine ⟨k + 1, ?_, by omega, by omega⟩
        (refine frz hS (by exact rfl) ?_ ?_; all_goals (repeat' (first | refine fF ?_ ?_ | refine fS ?_ ?_ | exact True.intro)); all_goals (try (first | exact kv | exact kQ | exact kQc | exact kIc | exact kFn0 | exact kOac | (refine kW (ov_of lks) rfl ?_ ?_))))
      · repeat refine gN ?_
        have : k = b.length := by omega
        subst this
        (refine frz hS (by exact rfl) ?_ ?_; all_goals (repeat' (first | refine fF ?_ ?_ | refine fS ?_ ?_ | exact True.intro)); all_goals (try (first | exact kv | exact kQ | exact kQc | exact kIc | exact kFn0 | exact kOac | (refine kW (ov_of lks) rfl ?_ ?_))))
    intro st hst
    refine awp_weak _ hst ?_
    clear hst st
    repeat refine gN ?_
    have hg : goesF f b p (i + 1) = goesF f b p i ++ [sumG b (goesF f b p i) p i b.length] := by
      rw [goesF, if_neg (by omega)]
    refine zw1 (s_app8 ttOk (Y := [sumG b (goesF f b p i) p i b.length]) ?_ ?_ ?_ (hn := hL))
    · exact srcE_win (L := [sumG b (goesF f b p i) p i b.length]) lks (by simp)
    · rw [hL]; simp; omega
    repeat refine gN ?_
    refine ⟨i + 1, ?_, by omega, by omega⟩
    rw [hg]
    (refine frz hS (by exact rfl) ?_ ?_; all_goals (repeat' (first | refine fF ?_ ?_ | refine fS ?_ ?_ | exact True.intro)); all_goals (try (first | exact kv | exact kQ | exact kQc | exact kIc | exact kFn0 | exact kOac | (refine kW (ov_of lks) rfl ?_ ?_))))
end Go.Proofs

/-
  From the machine's contracts to the rows of recur: what a call comes to where the package's table is laid; what the arguments are.
-/
namespace Go.Proofs
open Go Go.Abs Go.Nums
open Go.ChangeShapes Go.WideShapes Go.ChangeAt Go.RowKit

def ρ0 : Nm → Nat := fun _ => 0
def S0 : Store := fun _ => none

theorem calls_top {P : Program} {f : FuncId} {fn : Func} {c : Code} {args : List AVal} {res : Value} (h : AFun P f args (.c (.sc res))) (hf : P.funcs[f]? = some fn) (hb : fn.body = some c) (hname : (fn.name == "runtime.NumGoroutine") = false)
    (w : World) (hg : Globs w ρ0 S0) (vs : Array Value) (hv : VSs w ρ0 S0 args vs.toList) : Calls P f vs w fun e w' => e = .returned res ∧ Below w.heap.size w w' := by
  have hn' : ¬ fn.name = "runtime.NumGoroutine" := by simpa using hname
  have hrun : (callFunc f vs).run P w = .ok (.enter f vs) w := by simp [callFunc, hf, hn', hb]
  rcases h.calls S0 .new S0 (fun _ _ => rfl) rfl (fun _ => rfl) w ρ0 vs.toList ⟨fun m m' o o' hm => (by cases hm), fun m o hm => (by cases hm)⟩ hg hv with ⟨h1, h2⟩ | ⟨v, h1, -⟩
  · rw [Array.toArray_toList] at h2
    refine h2.mono fun e w' => ?_
    rintro ⟨ρ', v, rfl, -, hx, hr⟩
    exact ⟨by rw [show v = res from hr], hx.os, hx.tape, hx.output, hx.size, fun b hb => hx.old b hb (fun m o hm => by cases hm)⟩
  · rw [Array.toArray_toList, hrun] at h1; cases h1

def tabLaid : List Int := [0, 1, 56, 2, 57, 49, 28, 3, 61, 58, 42, 50, 38, 29, 17, 4, 62, 47, 59, 36, 45, 43, 51, 22, 53, 39, 33, 30, 24, 18, 12, 5, 63, 55, 48, 27, 60, 41, 37, 16, 46, 35, 44, 21, 52, 32, 23, 11, 54, 26, 40, 15, 34, 20, 31, 10, 25, 14, 19, 9, 13, 8, 7, 6]
theorem globs_of {w : World} (h : ∀ i, i < 64 → w.cell? ⟨0, i, none⟩ = some (.int .u8 (tabLaid.getD i 0))) : Globs w ρ0 S0 := by
  intro g cs hg
  match g, hg with
  | 0, hg =>
    have e : cs = tabLaid.map fun n => Leaf.sc (.int .u8 n) := (Option.some.inj hg).symm
    subst e
    refine ⟨0, 0, rfl, ⟨?_, fun m o hm => by cases hm⟩, fun j x hj => ?_⟩
    · have := h 0 (by decide)
      refine Nat.lt_of_not_le fun q => ?_
      rw [World.cell?] at this
      simp [Array.getElem?_eq_none q] at this
    · rw [List.getElem?_map] at hj
      cases hy : tabLaid[j]? with
      | none => rw [hy] at hj; cases hj
      | some y =>
        rw [hy] at hj
        cases hj
        have hl : j < 64 := (List.getElem?_eq_some_iff.1 hy).1
        refine ⟨_, ?_, .sc (c := .int .u8 y) rfl⟩
        have := h j hl
        rw [List.getD_eq_getElem?_getD, hy] at this
        rw [Nat.zero_add]
        exact this
  | g + 1, hg => cases hg

section
variable {H : Type} {enc : TypeId × Value → H} {P : Program} {w : World}

theorem ints_in {t e : TypeId} {n : Nat} {v : Value} {x : DataW H × List MemPlace} (ht : P.underlying t = some (.slice e)) (he : P.underlying e = some (.int .i64)) (hc : P.cellsOf e = 1)
    (h : DataW.trod enc P w 0 (fun _ => true) true n t [v] = some x) : ∃ l : List Int, (∀ z ∈ l, -9223372036854775808 ≤ z ∧ z < 9223372036854775808) ∧ l.length < 2 ^ 63 ∧ v.oneCell' = true ∧ IntsS w (Fr w ρ0 S0) .i64 l l.length v := by
  rcases open_ints ht he hc h with ⟨hcs, hx⟩ | ⟨a, len, cap, zs, hcs, _, hl, hm, hz, hx, hcell, hwz⟩
  · simp only [List.cons.injEq, and_true] at hcs
    subst hcs
    exact ⟨[], (fun z hz => by cases hz), by decide, rfl, none, 0, rfl, Nat.le_refl _, Nat.le_refl _, fun q => by simp at q⟩
  · simp only [List.cons.injEq, and_true] at hcs
    subst hcs
    simp only [if_true] at hz
    have hwz' : ∀ z ∈ zs, -9223372036854775808 ≤ z ∧ z < 9223372036854775808 := fun z hz => by
      have := hwz z hz
      simp [Lit.wf, IntKind.min, IntKind.max, IntKind.signed, IntKind.bits] at this
      omega
    have hml : maxLen = 9223372036854775807 := rfl
    have hlen : (zs.take len).length = len := by simp; omega
    refine ⟨zs.take len, fun y hy => hwz' y (List.mem_of_mem_take hy), by rw [hlen]; omega, rfl, some a, cap, ?_, Nat.le_refl _, ?_, fun q => ?_⟩
    · rw [hlen]
    · rw [hlen]; exact hl
    · rw [hlen] at q
      obtain ⟨b, off, rfl, hc2⟩ := ints_at hcell (by omega)
      refine ⟨b, off, rfl, ⟨?_, fun m o hm => by cases hm⟩, fun i y hi => ?_⟩
      · have := hc2 0 (by omega)
        refine Nat.lt_of_not_le fun g => ?_
        rw [World.cell?] at this
        simp [Array.getElem?_eq_none g] at this
      · have hi' : i < len := by
          have := (List.getElem?_eq_some_iff.1 hi).1
          simp at this; omega
        rw [List.getElem?_take_of_lt hi'] at hi
        rw [hc2 i (by omega), List.getD_eq_getElem?_getD, hi]; rfl

theorem vss_nil : VSs w ρ0 S0 [] [] := ⟨rfl, fun i x h => by simp at h⟩
theorem vss_cons {x : AVal} {v : Value} {xs : List AVal} {vs : List Value} (h : VS w ρ0 S0 x v) (t : VSs w ρ0 S0 xs vs) : VSs w ρ0 S0 (x :: xs) (v :: vs) := by
  refine ⟨by simp [t.1], fun i y hi => ?_⟩
  cases i with
  | zero => simp only [List.getElem?_cons_zero, Option.some.injEq] at hi; subst hi; exact ⟨v, rfl, h⟩
  | succ i => exact t.2 i y (by simpa using hi)
theorem vs_int {k : IntKind} {n : Int} : VS w ρ0 S0 (ivl k n) (.int k n) := rfl
end
end Go.Proofs

namespace Go.Proofs.YtdbjhcgogmfghaaDoor
open Go Go.Abs Go.Nums Go.Proofs
open Go.ChangeShapes Go.WideShapes Go.ChangeAt Go.RowKit Go.Joins

set_option maxRecDepth 100000

theorem own : ownKnob Tryd.prog.godebug = none := by kernel_rfl
theorem laidOut : laidOutB Tryd.prog = true := by kernel_rfl
def laidT : List (String × DataW Unit) := [("math/bits.deBruijn64tab", Rows.laid_math_bits_deBruijn64tab)]
theorem gTab : Tryd.prog.globalNamed "math/bits.deBruijn64tab" = some 0 := by kernel_rfl

theorem gTabT : (Tryd.prog.globals[0]?).map (·.type) = some 119 := by kernel_rfl
theorem cellsTab : Tryd.prog.cellsOf 119 = 64 := by kernel_rfl
theorem cellsU8 : Tryd.prog.cellsOf 5 = 1 := by kernel_rfl
theorem cellsI64 : Tryd.prog.cellsOf 2 = 1 := by kernel_rfl
theorem of_laid {W : World} (h : laidMetH Tryd.prog laidT W) : Globs W ρ0 S0 := by
  rw [MakeChecks.laidMetH_plain _ _ _ (by kernel_rfl)] at h
  have hT : Lib.TabIs Tryd.prog W "math/bits.deBruijn64tab" .u8 tabLaid := Lib.tabIs_of_head gTab gTabT Tryd.underlying119 Tryd.underlying5 cellsU8 cellsTab (rest := []) h
  exact globs_of fun i hi => hT.cell gTab i hi
theorem longs_in {H : Type} {enc : TypeId × Value → H} {W : World} {base : Nat} {v : Value} {d : DataW H} {p : List MemPlace} (hv : Value.okWide Tryd.prog W .any base 38 v) (h : DataW.Trod enc Tryd.prog W 0 (fun _ => true) true 38 v d p) :
    ∃ l : List Int, (∀ z ∈ l, -9223372036854775808 ≤ z ∧ z < 9223372036854775808) ∧ l.length < 2 ^ 63 ∧ VS W ρ0 S0 (li l) v := by
  obtain ⟨a0, len, cap, rfl⟩ := okWide_slice Tryd.underlying38 hv
  obtain ⟨fuel, hf⟩ := h
  obtain ⟨l, h1, h2, -, h4⟩ := ints_in Tryd.underlying38 Tryd.underlying2 cellsI64 hf
  exact ⟨l, h1, h2, h4⟩

theorem door_met (os : Os) (args : Array Value) : laidMetH Tryd.prog laidT ((World.doorLaid Tryd.prog 14 os).forCall (fun _ _ => 0) ⟨#[], args, []⟩).memory :=
  laidMetH_of_parts3 (fuel := 8) (laidMet_of_run' 8 (by kernel_rfl) (by kernel_rfl)) (by kernel_rfl) (by kernel_rfl)
end Go.Proofs.YtdbjhcgogmfghaaDoor
