/-
  An abstract machine for this program, contracts of its functions: part MF (no statement by itself).
-/
import Derived.Test.YtkhnekfipbbppaaMDc
import Derived.Test.YtkhnekfipbbppaaMEd
import Derived.Test.YtkhnekfipbbppaaRows
import Derived.ProofKit
import Derived.OpenShut
import Derived.Lib.SmallJoins
set_option linter.unusedVariables false
set_option linter.unusedSimpArgs false

/-
  The statements: is, awake.
-/
namespace Go.Proofs
open Go Go.Abs Go.Nums
attribute [local irreducible] thenA blockA awp aw Stp EndF EndP EndN EndG aOps
set_option linter.unusedSimpArgs false
set_option maxHeartbeats 4000000

theorem c_is (s t : Bool) (l m : List Nat) (e f : Int) (hl : l.length < 2 ^ 60) (hm : m.length < 2 ^ 60) : AFun Try.prog 12 [wi s l, ivl .i64 e, wi t m, ivl .i64 f] (bvl (decide (e = f ∧ s = t ∧ l = m))) := by
  refine afun (mu := muF) Try.func12 rfl (by decide) rfl (by decide) (Nat.le_of_ble_eq_true rfl) (by simp [nm0, AVal.at, AVal.at1, Cell.at]) (by simp [nm0, AVal.at, AVal.at1, Cell.at]) fun S hS => ?_
  repeat refine gN ?_
  ((first | refine zw1 ?_ | refine zw2 ?_ | refine zw3 ?_); refine s_cmp (fun h => ?_) (fun h => ?_))
  · repeat refine gN ?_
    ((first | refine zw1 ?_ | refine zw2 ?_ | refine zw3 ?_); refine s_call (c_sameint s t l m hl hm) ?_)
    repeat refine gN ?_
    (refine endF ttOk (.inr rfl) hS (by exact rfl) ?_ (fl' := [(8, bvl (decide (e = f ∧ s = t ∧ l = m)))]) (by exact rfl) (by exact rfl) (by exact rfl); (repeat' (first | refine fF ?_ ?_ | refine fS ?_ ?_ | exact True.intro); all_goals (try (first | exact kv | (refine kW (ov_of lks) rfl ?_ ?_)))))
    exact kB (by simp [h])
  · repeat refine gN ?_
    (refine endF ttOk (.inr rfl) hS (by exact rfl) ?_ (fl' := [(8, bvl (decide (e = f ∧ s = t ∧ l = m)))]) (by exact rfl) (by exact rfl) (by exact rfl); (repeat' (first | refine fF ?_ ?_ | refine fS ?_ ?_ | exact True.intro); all_goals (try (first | exact kv | (refine kW (ov_of lks) rfl ?_ ?_)))))
    exact kB (by simp [h])

theorem c_is_same (s : Bool) (l : List Nat) (e : Int) (hl : l.length < 2 ^ 60) : AFun Try.prog 12 [wi s l, ivl .i64 e, wi s l, ivl .i64 e] (bvl true) := by
  have h := c_is s s l l e e hl hl
  rwa [show decide (e = e ∧ s = s ∧ l = l) = true by simp] at h

theorem digs_one' {n : Nat} (h0 : n ≠ 0) (h : n < 18446744073709551616) : digs B n = [n] := by
  rw [digs_pos hB h0, Nat.mod_eq_of_lt h, Nat.div_eq_of_lt h, digs_zero]
theorem vz_n (n : Nat) : vz (n : Int) = wi false (digs B n) := by
  show wi (decide ((n : Int) < 0)) (digs B (n : Int).natAbs) = _
  rw [decide_eq_false (by omega)]; rfl
theorem vz_m (n : Nat) (h : 0 < n) : vz (-(n : Int)) = wi true (digs B n) := by
  show wi (decide (-(n : Int) < 0)) (digs B (-(n : Int)).natAbs) = _
  rw [decide_eq_true (by omega), Int.natAbs_neg]; rfl

theorem c_smallN (n : Nat) (h0 : n ≠ 0) (h : n < 2 ^ 62) : AFun Try.prog 8 [ivl .i64 n] (wi false [n]) := by
  have e := c_small1 n h
  rw [vz_n, digs_one' h0 (by omega)] at e; exact e
theorem c_smallM (n : Nat) (h0 : n ≠ 0) (h : n < 2 ^ 62) : AFun Try.prog 8 [ivl .i64 (-(n : Int))] (wi true [n]) := by
  have e := c_small2 n (by omega) h
  rw [vz_m n (by omega), digs_one' h0 (by omega)] at e; exact e

theorem c_awake : AFun Try.prog 13 [] (bvl true) := by
  have d3 : digs B 3 = [3] := digs_one' (by decide) (by decide)
  have d9 : digs B 9 = [9] := digs_one' (by decide) (by decide)
  have d1 : digs B 1 = [1] := digs_one' (by decide) (by decide)
  have d5 : digs B 5 = [5] := digs_one' (by decide) (by decide)
  have d2 : digs B 2 = [2] := digs_one' (by decide) (by decide)
  have of3 : AFun Try.prog 9 [wi false [3], iv 4] (.tup [wi false [5], ivl .i64 0]) := by
    have h := c_of1 3 4 (by decide) (by rw [d3]; decide) (by decide) (by show (digs B 5).length ≤ 4096; rw [d5]; decide)
    rw [show 2 ^ 4 / 3 = 5 from rfl] at h
    unfold w1 at h
    rw [d3, d5] at h; exact h
  have st9 : AFun Try.prog 11 [wi false [3], wi false [9], iv 4] (.tup [wi false [2], ivl .i64 0]) := by
    have h := c_step1 3 4 ((9 : Nat) : Int) (by decide) (by rw [d3]; decide) (by show (digs B 9).length ≤ 4096; rw [d9]; decide) (by decide) (by show (digs B 2).length ≤ 4096; rw [d2]; decide)
    rw [show stepV 3 ((9 : Nat) : Int) 4 = ((2 : Nat) : Int) from rfl, show wz ((9 : Nat) : Int) = vz ((9 : Nat) : Int) from rfl, show wz ((2 : Nat) : Int) = vz ((2 : Nat) : Int) from rfl, vz_n, vz_n, d9, d2] at h
    unfold w1 at h
    rw [d3] at h; exact h
  have stm : AFun Try.prog 11 [wi false [3], wi true [1], iv 4] (.tup [wi true [3], ivl .i64 0]) := by
    have h := c_step1 3 4 (-((1 : Nat) : Int)) (by decide) (by rw [d3]; decide) (by show (digs B 1).length ≤ 4096; rw [d1]; decide) (by decide) (by show (digs B 3).length ≤ 4096; rw [d3]; decide)
    rw [show stepV 3 (-((1 : Nat) : Int)) 4 = -((3 : Nat) : Int) from rfl, show wz (-((1 : Nat) : Int)) = vz (-((1 : Nat) : Int)) from rfl, show wz (-((3 : Nat) : Int)) = vz (-((3 : Nat) : Int)) from rfl, vz_m 1 (by decide), vz_m 3 (by decide), d1, d3] at h
    unfold w1 at h
    rw [d3] at h; exact h
  refine afun (mu := muF) Try.func13 rfl (by decide) rfl (by decide) (Nat.le_of_ble_eq_true rfl) (by simp [nm0, AVal.at, AVal.at1, Cell.at]) (by simp [nm0, AVal.at, AVal.at1, Cell.at]) fun S hS => ?_
  repeat refine gN ?_
  ((first | refine zw1 ?_ | refine zw2 ?_ | refine zw3 ?_); refine s_call (c_smallN 3 (by decide) (by decide)) ?_)
  repeat refine gN ?_
  ((first | refine zw1 ?_ | refine zw2 ?_ | refine zw3 ?_); refine s_call (of3) ?_)
  repeat refine gN ?_
  ((first | refine zw1 ?_ | refine zw2 ?_ | refine zw3 ?_); refine s_call (c_smallN 9 (by decide) (by decide)) ?_)
  repeat refine gN ?_
  ((first | refine zw1 ?_ | refine zw2 ?_ | refine zw3 ?_); refine s_call (st9) ?_)
  repeat refine gN ?_
  ((first | refine zw1 ?_ | refine zw2 ?_ | refine zw3 ?_); refine s_call (c_smallM 1 (by decide) (by decide)) ?_)
  repeat refine gN ?_
  ((first | refine zw1 ?_ | refine zw2 ?_ | refine zw3 ?_); refine s_call (stm) ?_)
  repeat refine gN ?_
  ((first | refine zw1 ?_ | refine zw2 ?_ | refine zw3 ?_); refine s_call (c_smallN 5 (by decide) (by decide)) ?_)
  repeat refine gN ?_
  ((first | refine zw1 ?_ | refine zw2 ?_ | refine zw3 ?_); refine s_call (c_is_same false [5] 0 (by decide)) ?_)
  repeat refine gN ?_
  ((first | refine zw1 ?_ | refine zw2 ?_ | refine zw3 ?_); refine s_call (c_smallN 2 (by decide) (by decide)) ?_)
  repeat refine gN ?_
  ((first | refine zw1 ?_ | refine zw2 ?_ | refine zw3 ?_); refine s_call (c_is_same false [2] 0 (by decide)) ?_)
  repeat refine gN ?_
  ((first | refine zw1 ?_ | refine zw2 ?_ | refine zw3 ?_); refine s_call (c_smallM 3 (by decide) (by decide)) ?_)
  repeat refine gN ?_
  ((first | refine zw1 ?_ | refine zw2 ?_ | refine zw3 ?_); refine s_call (c_is_same true [3] 0 (by decide)) ?_)
  repeat refine gN ?_
  (refine endF ttOk (.inr rfl) hS (by exact rfl) ?_ (fl' := [(0, bvl true)]) (by exact rfl) (by exact rfl) (by exact rfl); (repeat' (first | refine fF ?_ ?_ | refine fS ?_ ?_ | exact True.intro); all_goals (try (first | exact kv | (refine kW (ov_of lks) rfl ?_ ?_)))))
end Go.Proofs

/-
  From the machine's contracts to a row: what a call comes to; what an argument is.
-/
namespace Go.Proofs
open Go Go.Abs Go.Nums
open Go.ChangeShapes Go.WideShapes Go.ChangeAt Go.RowKit

def ρ0 : Nm → Nat := fun _ => 0
def S0 : Store := fun _ => none

theorem calls_top {P : Program} {f : FuncId} {fn : Func} {c : Code} {args : List AVal} {res : Value} (h : AFun P f args (.c (.sc res))) (hf : P.funcs[f]? = some fn) (hb : fn.body = some c) (hname : (fn.name == "runtime.NumGoroutine") = false)
    (w : World) (vs : Array Value) (hv : VSs w ρ0 S0 args vs.toList) : Calls P f vs w fun e w' => e = .returned res ∧ Below w.heap.size w w' := by
  have hn' : ¬ fn.name = "runtime.NumGoroutine" := by simpa using hname
  have hrun : (callFunc f vs).run P w = .ok (.enter f vs) w := by simp [callFunc, hf, hn', hb]
  rcases h.calls S0 .new S0 (fun _ _ => rfl) rfl w ρ0 vs.toList ⟨fun m m' o o' hm => (by cases hm), fun m o hm => (by cases hm)⟩ hv with ⟨h1, h2⟩ | ⟨v, h1, -⟩
  · rw [Array.toArray_toList] at h2
    refine h2.mono fun e w' => ?_
    rintro ⟨ρ', v, rfl, -, hx, hr⟩
    exact ⟨by rw [show v = res from hr], hx.os, hx.tape, hx.output, hx.size, fun b hb => hx.old b hb (fun m o hm => by cases hm)⟩
  · rw [Array.toArray_toList, hrun] at h1; cases h1

section
variable {H : Type} {enc : TypeId × Value → H} {P : Program} {w : World}

/-- A list of limbs that was handed in. -/
theorem limbs_in {t e : TypeId} {n : Nat} {v : Value} {x : DataW H × List MemPlace} (ht : P.underlying t = some (.slice e)) (he : P.underlying e = some (.int .u64)) (hc : P.cellsOf e = 1)
    (h : DataW.trod enc P w 0 (fun _ => true) true n t [v] = some x) : ∃ l : List Nat, rng B l ∧ l.length < 2 ^ 63 ∧ v.oneCell' = true ∧ IntsS w (Fr w ρ0 S0) .u64 (U l) (U l).length v := by
  rcases open_ints ht he hc h with ⟨hcs, hx⟩ | ⟨a, len, cap, zs, hcs, _, hl, hm, hz, hx, hcell, hwz⟩
  · simp only [List.cons.injEq, and_true] at hcs
    subst hcs
    exact ⟨[], rng_nil, by decide, rfl, none, 0, rfl, Nat.le_refl _, Nat.le_refl _, fun q => by simp [U] at q⟩
  · simp only [List.cons.injEq, and_true] at hcs
    subst hcs
    simp only [if_true] at hz
    have hwz' : ∀ z ∈ zs, 0 ≤ z ∧ z < 18446744073709551616 := fun z hz => by
      have := hwz z hz
      simp [Lit.wf, IntKind.min, IntKind.max, IntKind.signed, IntKind.bits] at this
      omega
    have hU : U ((zs.take len).map Int.toNat) = zs.take len := by
      rw [U, List.map_map]
      conv => rhs; rw [← List.map_id (zs.take len)]
      refine List.map_congr_left fun z hz => ?_
      have := hwz' z (List.mem_of_mem_take hz)
      simp; omega
    have hml : maxLen = 9223372036854775807 := rfl
    have hlen : ((zs.take len).map Int.toNat).length = len := by simp; omega
    refine ⟨(zs.take len).map Int.toNat, fun y hy => ?_, by rw [hlen]; omega, rfl, some a, cap, ?_, Nat.le_refl _, ?_, fun q => ?_⟩
    · obtain ⟨z, h1, rfl⟩ := List.mem_map.1 hy
      have := hwz' z (List.mem_of_mem_take h1)
      show z.toNat < 18446744073709551616
      omega
    · rw [U_len, hlen]
    · rw [U_len, hlen]; exact hl
    · rw [U_len, hlen] at q
      obtain ⟨b, off, rfl, hc2⟩ := ints_at hcell (by omega)
      refine ⟨b, off, rfl, ⟨?_, fun m o hm => by cases hm⟩, fun i y hi => ?_⟩
      · have := hc2 0 (by omega)
        refine Nat.lt_of_not_le fun g => ?_
        rw [World.cell?] at this
        simp [Array.getElem?_eq_none g] at this
      · rw [hU] at hi
        have hi' : i < len := by
          have := (List.getElem?_eq_some_iff.1 hi).1
          simp at this; omega
        rw [List.getElem?_take_of_lt hi'] at hi
        rw [hc2 i (by omega), List.getD_eq_getElem?_getD, hi]; rfl

theorem vss_nil : VSs w ρ0 S0 [] [] := ⟨rfl, fun i x h => by simp at h⟩
theorem vss_cons {x : AVal} {v : Value} {xs : List AVal} {vs : List Value} (h : VS w ρ0 S0 x v) (t : VSs w ρ0 S0 xs vs) : VSs w ρ0 S0 (x :: xs) (v :: vs) := by
  refine ⟨by simp [t.1], fun i y hi => ?_⟩
  cases i with
  | zero => simp only [List.getElem?_cons_zero, Option.some.injEq] at hi; subst hi; exact ⟨v, rfl, h⟩
  | succ i => exact t.2 i y (by simpa using hi)
theorem vs_int {k : IntKind} {n : Int} : VS w ρ0 S0 (ivl k n) (.int k n) := rfl
theorem vs_whole {s : Bool} {l : List Nat} {v : Value} (h1 : v.oneCell' = true) (h2 : IntsS w (Fr w ρ0 S0) .u64 (U l) (U l).length v) : VS w ρ0 S0 (wi s l) (.agg #[.bool s, v]) := by
  refine ⟨_, rfl, rfl, fun i x hi => ?_⟩
  match i with
  | 0 => simp only [List.getElem?_cons_zero, Option.some.injEq] at hi; subst hi; exact ⟨_, rfl, rfl, rfl⟩
  | 1 => simp only [List.getElem?_cons_succ, List.getElem?_cons_zero, Option.some.injEq] at hi; subst hi; exact ⟨_, rfl, h1, h2⟩
  | i + 2 => simp at hi
end
end Go.Proofs

namespace Go.Proofs.Ytkhnekfipbbppaa
open Go Go.Abs Go.Nums Go.Proofs
open Go.ChangeShapes Go.WideShapes Go.ChangeAt Go.RowKit Go.Joins

theorem own : ownKnob Try.prog.godebug = none := by kernel_rfl
theorem laidOut : laidOutB Try.prog = true := by kernel_rfl
theorem cells40 : Try.prog.cellsOf 40 = 2 := by kernel_rfl
theorem cells26 : Try.prog.cellsOf 26 = 1 := by kernel_rfl

set_option maxRecDepth 100000 in
theorem whole_in {H : Type} {enc : TypeId × Value → H} {W : World} {base : Nat} {v : Value} {d : DataW H} {p : List MemPlace} (hv : Value.okWide Try.prog W .any base 40 v) (h : DataW.Trod enc Try.prog W 0 (fun _ => true) true 40 v d p) :
    ∃ (s : Bool) (l : List Nat), rng B l ∧ l.length < 2 ^ 63 ∧ VS W ρ0 S0 (wi s l) v := by
  obtain ⟨c0, c1, y0, y1, m, rfl, rfl, rfl, hy0, hy1⟩ := open_agg2 Try.underlying40 (by kernel_rfl) cells40 hv h
  obtain ⟨s, e0, rfl⟩ := DataW.trod_bool Try.underlying4 hy0
  simp only [List.cons.injEq, and_true] at e0
  subst e0
  obtain ⟨l, hr, hl, ho, hi⟩ := limbs_in Try.underlying22 Try.underlying26 cells26 hy1
  exact ⟨s, l, hr, hl, vs_whole ho hi⟩
end Go.Proofs.Ytkhnekfipbbppaa

/-
  RecipSteps.
-/
namespace Go.Proofs
open Go Go.Abs Go.Nums
attribute [local irreducible] thenA blockA awp aw Stp EndF EndP EndN EndG aOps
set_option linter.unusedSimpArgs false
set_option maxHeartbeats 4000000

/-- A whole number as an exact one. -/
def nz (z : Int) : Nu := ⟨decide (z < 0), z.natAbs, 0⟩
theorem nz_val (z : Int) : (nz z).val = z := by
  show sg (decide (z < 0)) z.natAbs * 2 ^ (0 : Int).toNat = z
  rw [sg_same]; simp
theorem nz_ok {z : Int} {K : Nat} (h : blen z.natAbs ≤ K) : (nz z).ok K := ⟨Int.le_refl _, show (blen z.natAbs : Int) + 0 ≤ K by omega⟩
theorem c_numintZ (z : Int) (hz : (digs B z.natAbs).length < 2 ^ 42) : AFun Try.prog 24 [vz z] (nu (nz z)) := by
  have h := c_numint (decide (z < 0)) (digs B z.natAbs) (rng_digs hB _) hz
  rw [val_digs hB] at h; exact h
theorem len_le_blen {n k : Nat} (h : (digs B n).length ≤ k) : blen n ≤ 64 * k := by
  rw [blen_le, Nat.pow_mul]; exact (digs_len hB).1 h

theorem pow2_len (b k : Nat) (h : b < 64 * k) : (digs B (2 ^ b)).length ≤ k := by
  rw [digs_len hB, show B = 2 ^ 64 from rfl, ← Nat.pow_mul]; exact Nat.pow_lt_pow_right (by decide) h
/-- What a step leaves. -/
theorem step_left (D : Nat) (r : Int) (b : Nat) : ∃ ρ : Int, 0 ≤ ρ ∧ ρ < 2 ^ b ∧ ((2 : Int) ^ b - D * stepV D r b) * 2 ^ b = (2 ^ b - D * r) * (2 ^ b - D * r) + D * ρ := by
  obtain ⟨p, hp⟩ : ∃ p : Int, p = 2 ^ b := ⟨_, rfl⟩
  have hp0 : 0 < p := by rw [hp]; exact Int.pow_pos (by decide)
  unfold stepV
  rw [← hp]
  obtain ⟨w, hw⟩ : ∃ w, w = p - D * r := ⟨_, rfl⟩
  rw [← hw]
  obtain ⟨t, ht⟩ : ∃ t, t = w * r / p := ⟨_, rfl⟩
  have h1 := Int.emod_add_mul_ediv (w * r) p
  rw [← ht] at h1 ⊢
  refine ⟨w * r % p, Int.emod_nonneg _ (by omega), Int.emod_lt_of_pos _ hp0, ?_⟩
  obtain ⟨ρ, hρ⟩ : ∃ ρ, ρ = w * r % p := ⟨_, rfl⟩
  rw [← hρ] at h1 ⊢
  have h2 : p - D * (t + r) = w - D * t := by rw [hw, Int.mul_add]; omega
  have h3 : D * (p * t) = D * (w * r) - D * ρ := by rw [← Int.mul_sub]; congr 1; omega
  rw [h2, Int.sub_mul, Int.mul_assoc, Int.mul_comm t p, h3]
  have h4 : w * p - D * (w * r) = w * w := by
    conv => rhs; rw [show w * w = w * (p - D * r) by rw [← hw]]
    rw [Int.mul_sub, Int.mul_left_comm]
  omega
theorem step_le (D : Nat) (hD : 0 < D) (r : Int) (b : Nat) : stepV D r b ≤ ((2 ^ b / D : Nat) : Int) := by
  obtain ⟨ρ, h0, h1, h2⟩ := step_left D r b
  have hp0 : (0 : Int) < 2 ^ b := Int.pow_pos (by decide)
  have h3 : 0 ≤ ((2 : Int) ^ b - D * stepV D r b) * 2 ^ b := by
    rw [h2]
    have a1 : 0 ≤ ((2 : Int) ^ b - D * r) * (2 ^ b - D * r) := by
      rcases Int.le_total 0 ((2 : Int) ^ b - D * r) with q | q
      · exact Int.mul_nonneg q q
      · exact Int.mul_nonneg_of_nonpos_of_nonpos q q
    have a2 : 0 ≤ (D : Int) * ρ := Int.mul_nonneg (by omega) h0
    omega
  have h4 : 0 ≤ (2 : Int) ^ b - D * stepV D r b := Int.nonneg_of_mul_nonneg_left h3 hp0
  rw [show ((2 ^ b / D : Nat) : Int) = (2 : Int) ^ b / D by simp, Int.le_ediv_iff_mul_le (by omega), Int.mul_comm]
  omega

theorem l_steps (s1 s2 : Bool) (l1 l2 : List Nat) (hr1 : rng B l1) (hr2 : rng B l2) (hl1 : l1.length < 2 ^ 63) (hl2 : l2.length < 2 ^ 63) (bits : Int) : AFun Try.prog 5 [wi s1 l1, wi s2 l2, ivl .i64 bits] (bvl true) := by
  have hpick := c_pick bits 4001 (by decide) (by decide)
  obtain ⟨b, hb, hb4⟩ : ∃ b : Nat, bits % ((4001 : Nat) : Int) = (b : Int) ∧ b ≤ 4000 := ⟨(bits % ((4001 : Nat) : Int)).toNat, by omega, by omega⟩
  rw [hb] at hpick
  have hab := c_above s1 l1 20 hr1 hl1 (by decide)
  have hwi := c_wint s2 l2 20 hr2 hl2 (by decide)
  obtain ⟨D, hD⟩ : ∃ D, D = atl (val B (l1.take 20)) := ⟨_, rfl⟩
  obtain ⟨r, hr⟩ : ∃ r, r = sg s2 (val B (l2.take 20)) := ⟨_, rfl⟩
  have hD0 : 0 < D := by rw [hD]; unfold atl; split <;> omega
  have hv1 : val B (l1.take 20) < B ^ 20 := Nat.lt_of_lt_of_le (val_lt (rng_take hr1 20)) (Nat.pow_le_pow_right (by decide) (by simp; omega))
  have hDl : (digs B D).length ≤ 20 := by
    rw [digs_len hB, hD]; unfold atl; split
    · decide
    · exact hv1
  have hrl : (digs B r.natAbs).length ≤ 20 := by
    rw [digs_len hB, hr, sg_abs]
    exact Nat.lt_of_lt_of_le (val_lt (rng_take hr2 20)) (Nat.pow_le_pow_right (by decide) (by simp; omega))
  rw [← hD] at hab
  rw [← hr] at hwi
  clear hD hr
  have hp : (digs B (2 ^ b)).length ≤ 63 := pow2_len b 63 (by omega)
  have hpa : ((2 : Int) ^ b).natAbs = 2 ^ b := by simp [Int.natAbs_pow]
  have hsl : (digs B (stepV D r b).natAbs).length ≤ 90 := by
    have h1 := mul_len D r
    rw [Int.natAbs_natCast] at h1
    have h2 := sub_len (2 ^ b) (D * r)
    rw [hpa] at h2
    have h3 := mul_len (2 ^ b - D * r) r
    have h4 := shr_len ((2 ^ b - D * r) * r) b
    have h5 := add_len ((2 ^ b - D * r) * r / 2 ^ b) r
    unfold stepV; omega
  have hql : (digs B (2 ^ b / D)).length ≤ 63 := Nat.le_trans (len_mono hB (Nat.div_le_self _ _)) hp
  have hstep := c_step1 D b r hD0 (by omega) (by omega) (by omega) (by omega)
  have hof := c_of1 D b hD0 (by omega) (by omega) (by omega)
  obtain ⟨s, hs⟩ : ∃ s, s = stepV D r b := ⟨_, rfl⟩
  obtain ⟨q, hq⟩ : ∃ q : Nat, q = 2 ^ b / D := ⟨_, rfl⟩
  have hle := step_le D hD0 r b
  obtain ⟨ρ, hρ0, hρ1, hleft⟩ := step_left D r b
  rw [← hs] at hsl hstep hle hleft
  rw [← hq] at hql hof hle
  -- the numbers
  have hDn : (digs B (D : Int).natAbs).length ≤ 20 := hDl
  have hqn : (digs B (q : Int).natAbs).length ≤ 63 := hql
  have kD : (nz D).ok 5760 := nz_ok (Nat.le_trans (len_le_blen hDn) (by omega))
  have kr : (nz r).ok 5760 := nz_ok (Nat.le_trans (len_le_blen hrl) (by omega))
  have ks : (nz s).ok 5760 := nz_ok (Nat.le_trans (len_le_blen hsl) (by omega))
  have kq : (nz q).ok 5760 := nz_ok (Nat.le_trans (len_le_blen hqn) (by omega))
  have k1 : (Nu.mk false 1 0).ok 1 := ⟨Int.le_refl _, by decide⟩
  obtain ⟨one, hone⟩ : ∃ x : Nu, x = (Nu.mk false 1 0).scaled b := ⟨_, rfl⟩
  have vone : one.val = 2 ^ b := by rw [hone, Nu.val_scaled (by decide)]; simp [Nu.val, sg]
  have kone : one.ok 11520 := by rw [hone]; exact Nu.ok_mono (Nu.ok_scaled k1 b) (by omega)
  obtain ⟨P1, hP1⟩ : ∃ x : Nu, x = (nz D).times (nz r) := ⟨_, rfl⟩
  have kP1 : P1.ok 11520 := by rw [hP1]; exact Nu.ok_times kD kr
  have vP1 : P1.val = D * r := by rw [hP1, Nu.val_times kD.1 kr.1, nz_val, nz_val]
  obtain ⟨P2, hP2⟩ : ∃ x : Nu, x = (nz D).times (nz s) := ⟨_, rfl⟩
  have kP2' : P2.ok 11520 := by rw [hP2]; exact Nu.ok_times kD ks
  have vP2 : P2.val = D * s := by rw [hP2, Nu.val_times kD.1 ks.1, nz_val, nz_val]
  obtain ⟨was, hwas⟩ : ∃ x : Nu, x = one.less P1 := ⟨_, rfl⟩
  have kwas : was.ok 11521 := by rw [hwas]; exact Nu.ok_less kone kP1
  have vwas : was.val = 2 ^ b - D * r := by rw [hwas, Nu.val_less kone.1 kP1.1, vone, vP1]
  obtain ⟨left, hlf⟩ : ∃ x : Nu, x = one.less P2 := ⟨_, rfl⟩
  have kleft : left.ok 11521 := by rw [hlf]; exact Nu.ok_less kone kP2'
  have vleft : left.val = 2 ^ b - D * s := by rw [hlf, Nu.val_less kone.1 kP2'.1, vone, vP2]
  obtain ⟨sq, hsq⟩ : ∃ x : Nu, x = was.times was := ⟨_, rfl⟩
  have ksq : sq.ok 23042 := by rw [hsq]; exact Nu.ok_times kwas kwas
  have vsq : sq.val = (2 ^ b - D * r) * (2 ^ b - D * r) := by rw [hsq, Nu.val_times kwas.1 kwas.1, vwas]
  obtain ⟨told, htold⟩ : ∃ x : Nu, x = left.scaled b := ⟨_, rfl⟩
  have ktold : told.ok 23043 := by rw [htold]; exact Nu.ok_mono (Nu.ok_scaled kleft b) (by omega)
  have vtold : told.val = (2 ^ b - D * s) * 2 ^ b := by rw [htold, Nu.val_scaled kleft.1, vleft]
  obtain ⟨xb, hxb⟩ : ∃ x : Nu, x = (nz D).scaled b := ⟨_, rfl⟩
  have kxb : xb.ok 23042 := by rw [hxb]; exact Nu.ok_mono (Nu.ok_scaled kD b) (by omega)
  have vxb : xb.val = D * 2 ^ b := by rw [hxb, Nu.val_scaled kD.1, nz_val]
  obtain ⟨up, hup⟩ : ∃ x : Nu, x = sq.plus xb := ⟨_, rfl⟩
  have kup : up.ok 23043 := by rw [hup]; exact Nu.ok_plus ksq kxb
  have vup : up.val = (2 ^ b - D * r) * (2 ^ b - D * r) + D * 2 ^ b := by rw [hup, Nu.val_plus ksq.1 kxb.1, vsq, vxb]
  have hc1 := sign_cases (told.val - sq.val)
  have hc2 := sign_cases (told.val - up.val)
  have hc3 := sign_cases ((nz s).val - (nz q).val)
  have hDρ : (D : Int) * ρ < D * 2 ^ b := Int.mul_lt_mul_of_pos_left hρ1 (by omega)
  have hDρ0 : 0 ≤ (D : Int) * ρ := Int.mul_nonneg (by omega) hρ0
  have f1 : sq.val ≤ told.val := by rw [vsq, vtold, hleft]; omega
  have f2 : told.val < up.val := by rw [vup, vtold, hleft]; omega
  have f3 : (nz s).val ≤ (nz q).val := by rw [nz_val, nz_val]; exact hle
  have hiD := c_numintZ D (by omega)
  rw [vz_n] at hiD
  have hiq := c_numintZ q (by omega)
  rw [vz_n] at hiq
  clear hle hleft hρ0 hρ1 hDρ hDρ0 vone vP1 vP2 vwas vleft vsq vtold vxb vup
  refine afun (mu := muF) Try.func5 rfl (by decide) rfl (by decide) (Nat.le_of_ble_eq_true rfl) (by simp [nm0, AVal.at, AVal.at1, Cell.at]) (by simp [nm0, AVal.at, AVal.at1, Cell.at]) fun S hS => ?_
  repeat refine gN ?_
  ((first | refine zw1 ?_ | refine zw2 ?_ | refine zw3 ?_); refine s_call (hab) ?_)
  repeat refine gN ?_
  ((first | refine zw1 ?_ | refine zw2 ?_ | refine zw3 ?_); refine s_call (hwi) ?_)
  repeat refine gN ?_
  ((first | refine zw1 ?_ | refine zw2 ?_ | refine zw3 ?_); refine s_call (hpick) ?_)
  repeat refine gN ?_
  ((first | refine zw1 ?_ | refine zw2 ?_ | refine zw3 ?_); refine s_call (hstep) ?_)
  repeat refine gN ?_
  ((first | refine zw1 ?_ | refine zw2 ?_ | refine zw3 ?_); refine s_call (hof) ?_)
  repeat refine gN ?_
  ((first | refine zw1 ?_ | refine zw2 ?_ | refine zw3 ?_); refine s_cmp (fun g1 => ?_) (fun g1 => ?_))
  · exact absurd rfl g1
  repeat refine gN ?_
  ((first | refine zw1 ?_ | refine zw2 ?_ | refine zw3 ?_); refine s_call (c_numwhole1 1 (by decide)) ?_)
  repeat refine gN ?_
  ((first | refine zw1 ?_ | refine zw2 ?_ | refine zw3 ?_); refine s_call (c_scaled ⟨false, 1, 0⟩ b (show -9223372036854775808 ≤ (0 : Int) + b ∧ (0 : Int) + b < 9223372036854775808 by omega)) ?_)
  rw [← hone]
  repeat refine gN ?_
  ((first | refine zw1 ?_ | refine zw2 ?_ | refine zw3 ?_); refine s_call (hiD) ?_)
  repeat refine gN ?_
  ((first | refine zw1 ?_ | refine zw2 ?_ | refine zw3 ?_); refine s_call (c_numintZ r (by omega)) ?_)
  repeat refine gN ?_
  ((first | refine zw1 ?_ | refine zw2 ?_ | refine zw3 ?_); refine s_call (c_numtimes (nz D) (nz r) 5760 5760 kD kr (by decide) (by decide)) ?_)
  rw [← hP1]
  repeat refine gN ?_
  ((first | refine zw1 ?_ | refine zw2 ?_ | refine zw3 ?_); refine s_call (c_numless one P1 11520 kone kP1 (by decide)) ?_)
  rw [← hwas]
  repeat refine gN ?_
  ((first | refine zw1 ?_ | refine zw2 ?_ | refine zw3 ?_); refine s_call (c_numintZ s (by omega)) ?_)
  repeat refine gN ?_
  ((first | refine zw1 ?_ | refine zw2 ?_ | refine zw3 ?_); refine s_call (c_numtimes (nz D) (nz s) 5760 5760 kD ks (by decide) (by decide)) ?_)
  rw [← hP2]
  repeat refine gN ?_
  ((first | refine zw1 ?_ | refine zw2 ?_ | refine zw3 ?_); refine s_call (c_numless one P2 11520 kone kP2' (by decide)) ?_)
  rw [← hlf]
  repeat refine gN ?_
  ((first | refine zw1 ?_ | refine zw2 ?_ | refine zw3 ?_); refine s_call (c_numtimes was was 11521 11521 kwas kwas (by decide) (by decide)) ?_)
  rw [← hsq]
  repeat refine gN ?_
  ((first | refine zw1 ?_ | refine zw2 ?_ | refine zw3 ?_); refine s_call (c_scaled left b (by have := kleft.2; have := kleft.1; omega)) ?_)
  rw [← htold]
  repeat refine gN ?_
  ((first | refine zw1 ?_ | refine zw2 ?_ | refine zw3 ?_); refine s_call (c_numcompare told sq 23043 ktold (Nu.ok_mono ksq (by decide)) (by decide)) ?_)
  repeat refine gN ?_
  ((first | refine zw1 ?_ | refine zw2 ?_ | refine zw3 ?_); refine s_cmp (fun g2 => ?_) (fun g2 => ?_))
  · omega
  repeat refine gN ?_
  ((first | refine zw1 ?_ | refine zw2 ?_ | refine zw3 ?_); refine s_call (c_scaled (nz D) b (show -9223372036854775808 ≤ (0 : Int) + b ∧ (0 : Int) + b < 9223372036854775808 by omega)) ?_)
  rw [← hxb]
  repeat refine gN ?_
  ((first | refine zw1 ?_ | refine zw2 ?_ | refine zw3 ?_); refine s_call (c_numplus sq xb 23042 ksq kxb (by decide)) ?_)
  rw [← hup]
  repeat refine gN ?_
  ((first | refine zw1 ?_ | refine zw2 ?_ | refine zw3 ?_); refine s_call (c_numcompare told up 23043 ktold kup (by decide)) ?_)
  repeat refine gN ?_
  ((first | refine zw1 ?_ | refine zw2 ?_ | refine zw3 ?_); refine s_cmp (fun g3 => ?_) (fun g3 => ?_))
  · omega
  repeat refine gN ?_
  ((first | refine zw1 ?_ | refine zw2 ?_ | refine zw3 ?_); refine zg20 ttOk ?_ (hm := (by repeat (first | exact lkS_hd | refine lkS_tl (by first | (simp; done) | (simp; first | assumption | exact Ne.symm (by assumption))) ?_))))
  repeat refine gN ?_
  ((first | refine zw1 ?_ | refine zw2 ?_ | refine zw3 ?_); refine s_call (c_numintZ s (by omega)) ?_)
  repeat refine gN ?_
  ((first | refine zw1 ?_ | refine zw2 ?_ | refine zw3 ?_); refine zg20 ttOk ?_ (hm := (by repeat (first | exact lkS_hd | refine lkS_tl (by first | (simp; done) | (simp; first | assumption | exact Ne.symm (by assumption))) ?_))))
  repeat refine gN ?_
  ((first | refine zw1 ?_ | refine zw2 ?_ | refine zw3 ?_); refine s_call (hiq) ?_)
  repeat refine gN ?_
  ((first | refine zw1 ?_ | refine zw2 ?_ | refine zw3 ?_); refine s_call (c_numcompare (nz s) (nz q) 5760 ks kq (by decide)) ?_)
  repeat refine gN ?_
  ((first | refine zw1 ?_ | refine zw2 ?_ | refine zw3 ?_); refine s_cmp (fun g4 => ?_) (fun g4 => ?_))
  · repeat refine gN ?_
    ((first | refine zw1 ?_ | refine zw2 ?_ | refine zw3 ?_); refine s_call (c_awake) ?_)
    repeat refine gN ?_
    (refine endF ttOk (.inr rfl) hS (by exact rfl) ?_ (fl' := [(6, bvl true)]) (by exact rfl) (by exact rfl) (by exact rfl); (repeat' (first | refine fF ?_ ?_ | refine fS ?_ ?_ | exact True.intro); all_goals (try (first | exact kv | (refine kW (ov_of lks) rfl ?_ ?_)))))
  · omega
end Go.Proofs
