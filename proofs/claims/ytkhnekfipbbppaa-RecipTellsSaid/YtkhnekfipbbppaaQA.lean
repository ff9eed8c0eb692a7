/-
  The statement that is named at its end, proved of every input.
-/
import Derived.Test.YtkhnekfipbbppaaMEc
set_option linter.unusedVariables false
set_option linter.unusedSimpArgs false

/-
  The reference: short, NatDown, Cut.
-/
namespace Go.Proofs
open Go Go.Abs Go.Nums
attribute [local irreducible] thenA blockA awp aw Stp EndF EndP EndN EndG aOps
set_option linter.unusedSimpArgs false
set_option maxHeartbeats 4000000

theorem c_short0 (l : List Nat) (hl : rng H l) (hs : l.length < 2 ^ 40) (d : Nat) (hd0 : 0 < d) (hd : d ≤ 4294967296) : AFun Try.prog 81 [us l, uv d] (.tup [us (digs H (val H l / d)), uv (val H l % d)]) := by
  refine afun (mu := muF) Try.func81 rfl (by decide) rfl (by decide) (Nat.le_of_ble_eq_true rfl) (by simp [nm0, AVal.at, AVal.at1, Cell.at]) (by simp [nm0, AVal.at, AVal.at1, Cell.at]) fun S hS => ?_
  obtain ⟨n, hn⟩ : ∃ n, n = l.length := ⟨_, rfl⟩
  repeat refine gN ?_
  refine awp_rep3 (fun (i : Nat) (o : List Nat) (r : Nat) => ⟨lk' [(0, us l), (1, uv d), (6, .c (.win (.loc 12) 0 n n)), (7, uv r), (8, ivl .i64 ((i : Int) - 1))], ov [(.loc 12, .ints 26 .u64 (U o))] (pushS S)⟩)
    (fun i o r => i ≤ n ∧ o.length = n ∧ rng H o ∧ r < d ∧ val H (l.drop i) = val H (o.drop i) * d + r) (fun i _ _ => i)
    n (List.replicate n 0) 0 ⟨Nat.le_refl _, by simp, rng_rep (by decide) _, hd0, by rw [List.drop_of_length_le (by omega), List.drop_of_length_le (by simp)]; simp [val]⟩ ?_ ?_
  · rw [show ((l.length : Nat) : Int).toNat = n by omega]
    (refine frz hS (by exact rfl) ?_ ?_; all_goals (repeat' (first | refine fF ?_ ?_ | refine fS ?_ ?_ | exact True.intro)); all_goals (try (first | exact kv | (refine kW (ov_of lks) rfl ?_ ?_))))
    exact kO (U_rep _ 0)
  rintro i o r ⟨h1, h2, h3, h4, h5⟩
  have hlo := U_len o
  repeat refine gN ?_
  ((first | refine zw1 ?_ | refine zw2 ?_ | refine zw3 ?_); refine s_cmp (fun h6 => ?_) (fun h6 => ?_))
  · obtain ⟨j, rfl⟩ : ∃ j, i = j + 1 := ⟨i - 1, by omega⟩
    rw [show ((j + 1 : Nat) : Int) - 1 = (j : Int) by omega]
    have hx : l.getD j 0 < 4294967296 := getD_lt (by decide) hl j
    obtain ⟨x, hxe⟩ : ∃ x, x = l.getD j 0 := ⟨_, rfl⟩
    rw [← hxe] at hx
    have hq : (r * 4294967296 + x) / d < 4294967296 := by
      rw [Nat.div_lt_iff_lt_mul hd0]
      have : (r + 1) * 4294967296 ≤ d * 4294967296 := Nat.mul_le_mul_right _ h4
      omega
    repeat refine gN ?_
    rw [← hxe]
    refine ⟨j, o.set j ((r * 4294967296 + x) / d), (r * 4294967296 + x) % d, ?_, ⟨by omega, by simpa using h2, rng_set h3 hq, Nat.mod_lt _ hd0, ?_⟩, by omega⟩
    · (refine frz hS (by exact rfl) ?_ ?_; all_goals (repeat' (first | refine fF ?_ ?_ | refine fS ?_ ?_ | exact True.intro)); all_goals (try (first | exact kv | (refine kW (ov_of lks) rfl ?_ ?_))))
    · rw [drop_set_at (by omega), drop_getD (l := l) (by omega), val_cons, val_cons, ← hxe]
      exact short_step H _ _ d r x _ _ h5 (Nat.div_add_mod' _ _)
  · repeat refine gN ?_
    have hi : i = 0 := by omega
    subst hi
    rw [List.drop_zero, List.drop_zero] at h5
    refine aw_weak ⟨lk' [(36, us o), (7, uv r)], ov [] (pushS S)⟩ ?_ ?_
    · (refine frz hS (by exact rfl) ?_ ?_; all_goals (repeat' (first | refine fF ?_ ?_ | refine fS ?_ ?_ | exact True.intro)); all_goals (try (first | exact kv | (refine kW (ov_of lks) rfl ?_ ?_))))
      · omega
      · rw [List.drop_zero, U_take, take_all (by omega)]
    ((first | refine zw1 ?_ | refine zw2 ?_ | refine zw3 ?_); refine s_call (c_low o h3 (by omega)) ?_)
    repeat refine gN ?_
    rw [show val H l / d = val H o by rw [h5, Nat.mul_comm, Nat.mul_add_div hd0, Nat.div_eq_of_lt h4, Nat.add_zero], show val H l % d = r by rw [h5, Nat.mul_comm, Nat.mul_add_mod, Nat.mod_eq_of_lt h4]]
    (refine endF ttOk (.inr rfl) hS (by exact rfl) ?_ (fl' := [(4, us (digs H (val H o))), (5, uv r)]) (by exact rfl) (by exact rfl) (by exact rfl); (repeat' (first | refine fF ?_ ?_ | refine fS ?_ ?_ | exact True.intro); all_goals (try (first | exact kv | (refine kW (ov_of lks) rfl ?_ ?_)))))

theorem c_natdown (a n : Nat) (ha : (digs B a).length < 2 ^ 38) (hn : n < 2 ^ 62) : AFun Try.prog 61 [us (digs B a), iv n] (.tup [us (digs B (a / 2 ^ n)), bvl (decide (a % 2 ^ n ≠ 0))]) := by
  refine afun (mu := muF) Try.func61 rfl (by decide) rfl (by decide) (Nat.le_of_ble_eq_true rfl) (by simp [nm0, AVal.at, AVal.at1, Cell.at]) (by simp [nm0, AVal.at, AVal.at1, Cell.at]) fun S hS => ?_
  repeat refine gN ?_
  ((first | refine zw1 ?_ | refine zw2 ?_ | refine zw3 ?_); refine s_call (c_halvesE a (by omega)) ?_)
  repeat refine gN ?_
  obtain ⟨z, hz⟩ : ∃ z, z = n / 32 := ⟨_, rfl⟩
  obtain ⟨s, hs⟩ : ∃ s, s = n % 32 := ⟨_, rfl⟩
  have hs32 : s < 32 := by omega
  have hla := digsH_lenE a
  refine awp_midB (fun st => ∃ lb : Bool, Weak st ⟨lk' [(1, iv n), (6, us (digs H a)), (7, bvl lb)], ov [] (pushS S)⟩ ∧ (lb = true ↔ val H ((digs H a).take z) ≠ 0)) ?_ ?_
  · refine awp_rep2 (fun (i : Nat) (lb : Bool) => ⟨lk' [(1, iv n), (6, us (digs H a)), (7, bvl lb), (8, iv i)], ov [] (pushS S)⟩)
      (fun i lb => i ≤ z ∧ (lb = true ↔ val H ((digs H a).take i) ≠ 0)) (fun i _ => z - i) 0 false ⟨Nat.zero_le _, by simp [val]⟩ ?_ ?_
    · (refine frz hS (by exact rfl) ?_ ?_; all_goals (repeat' (first | refine fF ?_ ?_ | refine fS ?_ ?_ | exact True.intro)); all_goals (try (first | exact kv | (refine kW (ov_of lks) rfl ?_ ?_))))
    rintro i lb ⟨h1, h2⟩
    have hta := val_take_succ H (digs H a) i
    have hp0 : 0 < H ^ i := Nat.pow_pos (by decide)
    repeat refine gN ?_
    rw [← hz]
    ((first | refine zw1 ?_ | refine zw2 ?_ | refine zw3 ?_); refine s_cmp (fun g1 => ?_) (fun g1 => ?_))
    · repeat refine gN ?_
      ((first | refine zw1 ?_ | refine zw2 ?_ | refine zw3 ?_); refine s_cmp (fun g2 => ?_) (fun g2 => ?_))
      · repeat refine gN ?_
        cases lb with
        | true =>
          repeat refine gN ?_
          refine ⟨i + 1, true, ?_, ⟨by omega, ?_⟩, by omega⟩
          · (refine frz hS (by exact rfl) ?_ ?_; all_goals (repeat' (first | refine fF ?_ ?_ | refine fS ?_ ?_ | exact True.intro)); all_goals (try (first | exact kv | (refine kW (ov_of lks) rfl ?_ ?_))))
          · have := h2.1 rfl
            rw [hta]; simp only [true_iff]; omega
        | false =>
          have h0 : val H ((digs H a).take i) = 0 := by
            refine Decidable.byContradiction fun q => ?_
            have := h2.2 q; cases this
          rw [h0, Nat.zero_add] at hta
          repeat refine gN ?_
          ((first | refine zw1 ?_ | refine zw2 ?_ | refine zw3 ?_); refine s_cmp (fun g3 => ?_) (fun g3 => ?_))
          · repeat refine gN ?_
            refine ⟨i + 1, true, ?_, ⟨by omega, ?_⟩, by omega⟩
            · (refine frz hS (by exact rfl) ?_ ?_; all_goals (repeat' (first | refine fF ?_ ?_ | refine fS ?_ ?_ | exact True.intro)); all_goals (try (first | exact kv | (refine kW (ov_of lks) rfl ?_ ?_))))
            · rw [hta]; simp only [true_iff]
              exact Nat.mul_ne_zero (by omega) (by omega)
          · repeat refine gN ?_
            refine ⟨i + 1, false, ?_, ⟨by omega, ?_⟩, by omega⟩
            · (refine frz hS (by exact rfl) ?_ ?_; all_goals (repeat' (first | refine fF ?_ ?_ | refine fS ?_ ?_ | exact True.intro)); all_goals (try (first | exact kv | (refine kW (ov_of lks) rfl ?_ ?_))))
            · rw [hta, show (digs H a).getD i 0 = 0 by omega]; simp
      · repeat refine gN ?_
        refine ⟨lb, ?_, ?_⟩
        · (refine frz hS (by exact rfl) ?_ ?_; all_goals (repeat' (first | refine fF ?_ ?_ | refine fS ?_ ?_ | exact True.intro)); all_goals (try (first | exact kv | (refine kW (ov_of lks) rfl ?_ ?_))))
        · rw [take_all (show (digs H a).length ≤ z by omega)]
          rw [take_all (show (digs H a).length ≤ i by omega)] at h2
          exact h2
    · repeat refine gN ?_
      have : i = z := by omega
      subst this
      refine ⟨lb, ?_, h2⟩
      (refine frz hS (by exact rfl) ?_ ?_; all_goals (repeat' (first | refine fF ?_ ?_ | refine fS ?_ ?_ | exact True.intro)); all_goals (try (first | exact kv | (refine kW (ov_of lks) rfl ?_ ?_))))
  rintro st ⟨lb, hw, hlb⟩
  refine awp_weak _ hw ?_
  clear hw st
  obtain ⟨p, hp⟩ : ∃ p, p = 2 ^ s := ⟨_, rfl⟩
  have hp31 : p ≤ 2147483648 := by rw [hp]; exact Nat.pow_le_pow_right (n := 2) (by decide) (show s ≤ 31 by omega)
  have hp0 : 0 < p := by rw [hp]; exact Nat.two_pow_pos _
  have hHz : 2 ^ n = H ^ z * p := by rw [hp, show H = 2 ^ 32 from rfl, ← Nat.pow_mul, ← Nat.pow_add]; congr 1; omega
  repeat refine gN ?_
  rw [← hz]
  ((first | refine zw1 ?_ | refine zw2 ?_ | refine zw3 ?_); refine s_cmp (fun g1 => ?_) (fun g1 => ?_))
  · repeat refine gN ?_
    have e1 : val H ((digs H a).take z) = a := by rw [take_all (by omega), val_digs hH]
    have hlt : a < 2 ^ n := by
      rw [hHz]
      have : a < H ^ z := Nat.lt_of_lt_of_le (digs_lt hH a) (Nat.pow_le_pow_right (by decide) (by omega))
      exact Nat.lt_of_lt_of_le this (Nat.le_mul_of_pos_right _ hp0)
    rw [e1] at hlb
    rw [Nat.div_eq_of_lt hlt, Nat.mod_eq_of_lt hlt, digs_zero, show decide (a ≠ 0) = lb by cases lb <;> simp at hlb ⊢ <;> omega]
    (refine endF ttOk (.inr rfl) hS (by exact rfl) ?_ (fl' := [(4, us []), (5, bvl lb)]) (by exact rfl) (by exact rfl) (by exact rfl); (repeat' (first | refine fF ?_ ?_ | refine fS ?_ ?_ | exact True.intro); all_goals (try (first | exact kv | (refine kW (ov_of lks) rfl ?_ ?_)))))
  have hzl : z ≤ (digs H a).length := by omega
  have hv := val_split H hzl
  rw [val_digs hH] at hv
  have htl := val_take_lt (rng_digs hH a) hzl
  obtain ⟨T, hT⟩ : ∃ t, t = val H ((digs H a).take z) := ⟨_, rfl⟩
  obtain ⟨V, hV⟩ : ∃ v, v = val H ((digs H a).drop z) := ⟨_, rfl⟩
  rw [← hT] at hv htl hlb
  rw [← hV] at hv
  have hHz0 : 0 < H ^ z := Nat.pow_pos (by decide)
  have ediv : a / 2 ^ n = V / p := by
    rw [hHz, ← Nat.div_div_eq_div_mul, hv, Nat.add_mul_div_left _ _ hHz0, Nat.div_eq_of_lt htl, Nat.zero_add]
  have emod : a % 2 ^ n = T + H ^ z * (V % p) := by
    rw [hHz, Nat.mod_mul, hv, Nat.add_mul_mod_self_left, Nat.mod_eq_of_lt htl, Nat.add_mul_div_left _ _ hHz0, Nat.div_eq_of_lt htl, Nat.zero_add]
  repeat refine gN ?_
  refine awp_midB (fun st => Weak st ⟨lk' [(1, iv n), (6, us (digs H a)), (7, bvl lb), (9, uv p)], ov [] (pushS S)⟩) ?_ ?_
  · refine awp_rep (ι := Nat) (fun j => ⟨lk' [(1, iv n), (6, us (digs H a)), (7, bvl lb), (9, uv (2 ^ j)), (10, iv j)], ov [] (pushS S)⟩) (fun j => j ≤ s) (fun j => s - j) 0 (Nat.zero_le _) ?_ ?_
    · (refine frz hS (by exact rfl) ?_ ?_; all_goals (repeat' (first | refine fF ?_ ?_ | refine fS ?_ ?_ | exact True.intro)); all_goals (try (first | exact kv | (refine kW (ov_of lks) rfl ?_ ?_))))
    intro j hj
    have h31 : 2 ^ j ≤ 2147483648 := Nat.pow_le_pow_right (n := 2) (by decide) (show j ≤ 31 by omega)
    repeat refine gN ?_
    ((first | refine zw1 ?_ | refine zw2 ?_ | refine zw3 ?_); refine s_cmp (fun g3 => ?_) (fun g3 => ?_))
    · repeat refine gN ?_
      refine ⟨j + 1, ?_, by omega, by omega⟩
      (refine frz hS (by exact rfl) ?_ ?_; all_goals (repeat' (first | refine fF ?_ ?_ | refine fS ?_ ?_ | exact True.intro)); all_goals (try (first | exact kv | (refine kW (ov_of lks) rfl ?_ ?_))))
    · repeat refine gN ?_
      have : j = s := by omega
      subst this
      rw [← hp]
      (refine frz hS (by exact rfl) ?_ ?_; all_goals (repeat' (first | refine fF ?_ ?_ | refine fS ?_ ?_ | exact True.intro)); all_goals (try (first | exact kv | (refine kW (ov_of lks) rfl ?_ ?_))))
  intro st hst
  refine awp_weak _ hst ?_
  clear hst st
  have hUa := U_len (digs H a)
  repeat refine gN ?_
  have esl : List.take ((U (digs H a)).length - ((n / 32 : Nat) : Int).toNat) (List.drop ((n / 32 : Nat) : Int).toNat (U (digs H a))) = U ((digs H a).drop z) := by
    rw [show ((n / 32 : Nat) : Int).toNat = z by omega, U_drop, U_take, take_all (by rw [List.length_drop, U_len]; exact Nat.le_refl _)]
  rw [esl]
  ((first | refine zw1 ?_ | refine zw2 ?_ | refine zw3 ?_); refine s_call (c_short0 ((digs H a).drop z) (rng_drop (rng_digs hH a) z) (by rw [List.length_drop]; omega) p hp0 (by omega)) ?_)
  rw [← hV]
  repeat refine gN ?_
  have hVa : V ≤ a := by rw [hv]; exact Nat.le_trans (Nat.le_mul_of_pos_left V hHz0) (Nat.le_add_left _ _)
  have hll : (digs H (V / p)).length ≤ (digs H a).length := len_mono hH (Nat.le_trans (Nat.div_le_self _ _) hVa)
  ((first | refine zw1 ?_ | refine zw2 ?_ | refine zw3 ?_); refine s_call (c_limbs0 (digs H (V / p)) (rng_digs hH _) (by omega)) ?_)
  rw [val_digs hH, ediv, emod]
  cases lb with
  | true =>
    have hT0 := hlb.1 rfl
    rw [show decide (T + H ^ z * (V % p) ≠ 0) = true from decide_eq_true (by omega)]
    repeat refine gN ?_
    (refine endF ttOk (.inr rfl) hS (by exact rfl) ?_ (fl' := [(4, us (digs B (V / p))), (5, bvl true)]) (by exact rfl) (by exact rfl) (by exact rfl); (repeat' (first | refine fF ?_ ?_ | refine fS ?_ ?_ | exact True.intro); all_goals (try (first | exact kv | (refine kW (ov_of lks) rfl ?_ ?_)))))
  | false =>
    have hT0 : T = 0 := by
      refine Decidable.byContradiction fun q => ?_
      have := hlb.2 q; cases this
    repeat refine gN ?_
    ((first | refine zw1 ?_ | refine zw2 ?_ | refine zw3 ?_); refine s_cmp (fun g4 => ?_) (fun g4 => ?_))
    · rw [show decide (T + H ^ z * (V % p) ≠ 0) = true from decide_eq_true (by
        have : H ^ z * (V % p) ≠ 0 := Nat.mul_ne_zero (by omega) (by omega)
        omega)]
      repeat refine gN ?_
      (refine endF ttOk (.inr rfl) hS (by exact rfl) ?_ (fl' := [(4, us (digs B (V / p))), (5, bvl true)]) (by exact rfl) (by exact rfl) (by exact rfl); (repeat' (first | refine fF ?_ ?_ | refine fS ?_ ?_ | exact True.intro); all_goals (try (first | exact kv | (refine kW (ov_of lks) rfl ?_ ?_)))))
    · rw [show decide (T + H ^ z * (V % p) ≠ 0) = false from decide_eq_false (by rw [show V % p = 0 by omega, hT0]; simp)]
      repeat refine gN ?_
      (refine endF ttOk (.inr rfl) hS (by exact rfl) ?_ (fl' := [(4, us (digs B (V / p))), (5, bvl false)]) (by exact rfl) (by exact rfl) (by exact rfl); (repeat' (first | refine fF ?_ ?_ | refine fS ?_ ?_ | exact True.intro); all_goals (try (first | exact kv | (refine kW (ov_of lks) rfl ?_ ?_)))))

namespace Nu
def cut (x : Nu) : Nu :=
  if x.n = 0 then ⟨false, 0, 0⟩ else if 0 ≤ x.e then x
  else if x.n % 2 ^ (-x.e).toNat ≠ 0 ∧ x.s = true then ⟨x.s, x.n / 2 ^ (-x.e).toNat + 1, 0⟩ else ⟨x.s, x.n / 2 ^ (-x.e).toNat, 0⟩
theorem cut_mk (s : Bool) (n : Nat) (e : Int) : Nu.cut ⟨s, n, e⟩ = if n = 0 then ⟨false, 0, 0⟩ else if 0 ≤ e then ⟨s, n, e⟩
  else if n % 2 ^ (-e).toNat ≠ 0 ∧ s = true then ⟨s, n / 2 ^ (-e).toNat + 1, 0⟩ else ⟨s, n / 2 ^ (-e).toNat, 0⟩ := rfl
theorem cut_e (x : Nu) : 0 ≤ x.cut.e := by
  unfold cut
  split
  · exact Int.le_refl _
  · split
    · assumption
    · split <;> exact Int.le_refl _
theorem cut_ok {x : Nu} {K : Nat} (h : (blen x.n : Int) + x.e ≤ K) (h2 : blen x.n ≤ K) : x.cut.ok (K + 1) := by
  refine ⟨cut_e x, ?_⟩
  unfold cut
  split
  · show (blen 0 : Int) + 0 ≤ _; rw [blen0]; omega
  · split
    · omega
    · have h3 := blen_mono (Nat.div_le_self x.n (2 ^ (-x.e).toNat))
      have h4 := blen_add (x.n / 2 ^ (-x.e).toNat) 1
      have h5 : blen 1 = 1 := by decide
      split
      · show (blen (x.n / 2 ^ (-x.e).toNat + 1) : Int) + 0 ≤ _
        have h6 := blen_pos (a := x.n) (by assumption)
        omega
      · show (blen (x.n / 2 ^ (-x.e).toNat) : Int) + 0 ≤ _
        omega
theorem cut_val {z : Nu} (hz : 0 ≤ z.e) (k : Nat) : (z.scaled (-(k : Int))).cut.val = z.val / 2 ^ k := by
  have hk0 : (0 : Int) < 2 ^ k := Int.pow_pos (by decide)
  obtain ⟨s, n, e⟩ := z
  obtain ⟨e, rfl⟩ : ∃ e' : Nat, e = (e' : Int) := ⟨e.toNat, by simp only at hz; omega⟩
  show (Nu.cut ⟨s, n, (e : Int) + -(k : Int)⟩).val = _
  rw [cut_mk]
  by_cases h : n = 0
  · rw [if_pos h, val_zero rfl, val_zero (show (Nu.mk s n e).n = 0 from h)]; simp
  · rw [if_neg h]
    by_cases h2 : 0 ≤ (e : Int) + -(k : Int)
    · rw [if_pos h2]
      obtain ⟨j, hj⟩ : ∃ j : Nat, e = j + k := ⟨e - k, by omega⟩
      simp only [val]
      rw [show ((e : Int) + -(k : Int)).toNat = j by omega, show ((e : Int)).toNat = e by omega, hj, Int.pow_add, ← Int.mul_assoc, Int.mul_ediv_cancel _ (by omega)]
    · rw [if_neg h2]
      obtain ⟨j, hj⟩ : ∃ j : Nat, k = j + e := ⟨k - e, by omega⟩
      have hj2 : (-((e : Int) + -(k : Int))).toNat = j := by omega
      have he0 : (0 : Int) < 2 ^ e := Int.pow_pos (by decide)
      have hv : (Nu.mk s n e).val / 2 ^ k = sg s n / 2 ^ j := by
        simp only [val]
        rw [show ((e : Int)).toNat = e by omega, hj, Int.pow_add, Int.mul_ediv_mul_of_pos_left _ _ he0]
      rw [hv, hj2]
      cases s with
      | false =>
        rw [if_neg (by simp)]
        simp only [val]
        rw [show ((0 : Int)).toNat = 0 from rfl, Int.pow_zero, Int.mul_one]
        show ((n / 2 ^ j : Nat) : Int) = (n : Int) / 2 ^ j
        exact (shr_pos n j).symm
      | true =>
        by_cases h3 : n % 2 ^ j ≠ 0
        · rw [if_pos ⟨h3, rfl⟩]
          simp only [val]
          rw [show ((0 : Int)).toNat = 0 from rfl, Int.pow_zero, Int.mul_one]
          exact (shr_neg n j h3).symm
        · rw [if_neg (fun h => h3 h.1)]
          simp only [val]
          rw [show ((0 : Int)).toNat = 0 from rfl, Int.pow_zero, Int.mul_one]
          exact (shr_neg0 n j (by omega)).symm
end Nu

theorem c_cut (x : Nu) (K : Nat) (h1 : blen x.n ≤ K) (h2 : -(K : Int) ≤ x.e ∧ x.e ≤ K) (hK : K ≤ 2 ^ 36) : AFun Try.prog 30 [nu x, ivl .i64 0, bvl false] (nu x.cut) := by
  have hl := len_blen' x.n
  by_cases g1 : x.n = 0
  · rw [show x.cut = ⟨false, 0, 0⟩ by rw [Nu.cut, if_pos g1], show nu ⟨false, 0, 0⟩ = .agg [.sc (.bool false), .ints .u64 [], .sc (.int .i64 0)] by simp only [nu, digs_zero]; rfl]
    refine afun (mu := muF) Try.func30 rfl (by decide) rfl (by decide) (Nat.le_of_ble_eq_true rfl) (by simp [nm0, AVal.at, AVal.at1, Cell.at]) (by simp [nm0, AVal.at, AVal.at1, Cell.at]) fun S hS => ?_
    repeat refine gN ?_
    ((first | refine zw1 ?_ | refine zw2 ?_ | refine zw3 ?_); refine s_call (c_numzero1 x (by omega) g1) ?_)
    repeat refine gN ?_
    (refine endF ttOk (.inr rfl) hS (by exact rfl) ?_ (fl' := [(6, .c (.pim [.sc (.bool false), .ints .u64 [], .sc (.int .i64 0)]))]) (by exact rfl) (by exact rfl) (by exact rfl); (repeat' (first | refine fF ?_ ?_ | refine fS ?_ ?_ | exact True.intro); all_goals (try (first | exact kv | (refine kW (ov_of lks) rfl ?_ ?_)))))
  by_cases g2 : 0 ≤ x.e
  · rw [show x.cut = x by rw [Nu.cut, if_neg g1, if_pos g2]]
    refine afun (mu := muF) Try.func30 rfl (by decide) rfl (by decide) (Nat.le_of_ble_eq_true rfl) (by simp [nm0, AVal.at, AVal.at1, Cell.at]) (by simp [nm0, AVal.at, AVal.at1, Cell.at]) fun S hS => ?_
    repeat refine gN ?_
    ((first | refine zw1 ?_ | refine zw2 ?_ | refine zw3 ?_); refine s_call (c_numzero2 x (by omega) g1) ?_)
    repeat refine gN ?_
    ((first | refine zw1 ?_ | refine zw2 ?_ | refine zw3 ?_); refine s_cmp (fun g3 => ?_) (fun g3 => ?_))
    · repeat refine gN ?_
      (refine endF ttOk (.inr rfl) hS (by exact rfl) ?_ (fl' := [(6, np x)]) (by exact rfl) (by exact rfl) (by exact rfl); (repeat' (first | refine fF ?_ ?_ | refine fS ?_ ?_ | exact True.intro); all_goals (try (first | exact kv | (refine kW (ov_of lks) rfl ?_ ?_)))))
    · omega
  obtain ⟨s, n, e⟩ := x
  simp only at g1 g2 h1 h2 hl
  obtain ⟨k, rfl⟩ : ∃ k : Nat, e = -(k : Int) := ⟨(-e).toNat, by omega⟩
  have ek : (- -(k : Int)).toNat = k := by omega
  have ec : Nu.cut ⟨s, n, -(k : Int)⟩ = if n % 2 ^ k ≠ 0 ∧ s = true then ⟨s, n / 2 ^ k + 1, 0⟩ else ⟨s, n / 2 ^ k, 0⟩ := by
    unfold Nu.cut
    simp only
    rw [if_neg g1, if_neg g2, ek]
  rw [ec]
  have hd := len_mono hB (Nat.div_le_self n (2 ^ k))
  refine afun (mu := muF) Try.func30 rfl (by decide) rfl (by decide) (Nat.le_of_ble_eq_true rfl) (by simp [nm0, AVal.at, AVal.at1, Cell.at]) (by simp [nm0, AVal.at, AVal.at1, Cell.at]) fun S hS => ?_
  repeat refine gN ?_
  ((first | refine zw1 ?_ | refine zw2 ?_ | refine zw3 ?_); refine s_call (c_numzero2 ⟨s, n, -(k : Int)⟩ (show (digs B n).length < 2 ^ 42 by omega) g1) ?_)
  repeat refine gN ?_
  ((first | refine zw1 ?_ | refine zw2 ?_ | refine zw3 ?_); refine s_cmp (fun g3 => ?_) (fun g3 => ?_))
  · exact absurd g3 g2
  repeat refine gN ?_
  rw [show (0 : Int) - -(k : Int) = (k : Int) by omega]
  ((first | refine zw1 ?_ | refine zw2 ?_ | refine zw3 ?_); refine s_call (c_natdown n k (by omega) (by omega)) ?_)
  by_cases g4 : n % 2 ^ k ≠ 0
  · rw [decide_eq_true g4]
    cases s with
    | true =>
      rw [if_pos ⟨g4, rfl⟩]
      repeat refine gN ?_
      ((first | refine zw1 ?_ | refine zw2 ?_ | refine zw3 ?_); refine s_call (c_natof 1 (by decide)) ?_)
      repeat refine gN ?_
      ((first | refine zw1 ?_ | refine zw2 ?_ | refine zw3 ?_); refine s_call (c_natadd (n / 2 ^ k) 1 (by omega) (by rw [digs_one]; decide)) ?_)
      repeat refine gN ?_
      (refine endF ttOk (.inr rfl) hS (by exact rfl) ?_ (fl' := [(6, np ⟨true, n / 2 ^ k + 1, 0⟩)]) (by exact rfl) (by exact rfl) (by exact rfl); (repeat' (first | refine fF ?_ ?_ | refine fS ?_ ?_ | exact True.intro); all_goals (try (first | exact kv | (refine kW (ov_of lks) rfl ?_ ?_)))))
    | false =>
      rw [if_neg (by simp)]
      repeat refine gN ?_
      (refine endF ttOk (.inr rfl) hS (by exact rfl) ?_ (fl' := [(6, np ⟨false, n / 2 ^ k, 0⟩)]) (by exact rfl) (by exact rfl) (by exact rfl); (repeat' (first | refine fF ?_ ?_ | refine fS ?_ ?_ | exact True.intro); all_goals (try (first | exact kv | (refine kW (ov_of lks) rfl ?_ ?_)))))
  · rw [decide_eq_false g4, if_neg (fun h => g4 h.1)]
    repeat refine gN ?_
    (refine endF ttOk (.inr rfl) hS (by exact rfl) ?_ (fl' := [(6, np ⟨s, n / 2 ^ k, 0⟩)]) (by exact rfl) (by exact rfl) (by exact rfl); (repeat' (first | refine fF ?_ ?_ | refine fS ?_ ?_ | exact True.intro); all_goals (try (first | exact kv | (refine kW (ov_of lks) rfl ?_ ?_)))))
end Go.Proofs

/-
  The reference: times, less (in place).
-/
namespace Go.Proofs
open Go Go.Abs Go.Nums
attribute [local irreducible] thenA blockA awp aw Stp EndF EndP EndN EndG aOps
set_option linter.unusedSimpArgs false
set_option maxHeartbeats 4000000

/-- So many digits. -/
def padH (k n : Nat) : List Nat := digs H n ++ List.replicate (k - (digs H n).length) 0
theorem padH_val (k n : Nat) : val H (padH k n) = n := by rw [padH, val_append, val_digs hH, val_rep0]; simp
theorem padH_len {k n : Nat} (h : n < H ^ k) : (padH k n).length = k := by
  have := (digs_len hH).2 h
  simp [padH]; omega
theorem padH_rng (k n : Nat) : rng H (padH k n) := rng_append.2 ⟨rng_digs hH n, rng_rep (by decide) _⟩
theorem padH_eq {l : List Nat} (hr : rng H l) : l = padH l.length (val H l) :=
  val_inj (b := H) (by decide) hr (padH_rng _ _) (padH_len (val_lt hr)).symm (padH_val _ _).symm
theorem padH_of {l : List Nat} {k n : Nat} (hr : rng H l) (hl : l.length = k) (hv : val H l = n) : l = padH k n := by subst hl; subst hv; exact padH_eq hr

theorem c_times0 (l : List Nat) (hl : rng H l) (d k : Nat) (hd : d < 4294967296) (hk : k < 2 ^ 40) (hs : val H l * d < H ^ k) (hlk : l.length ≤ k) : AMade Try.prog 100 [us l, uv d, iv k] (fun z => .c (.win z 0 k k)) (oi (padH k (val H l * d))) := by
  refine amade (mu := muF) Try.func100 rfl (by decide) rfl (by decide) (Nat.le_of_ble_eq_true rfl) (by simp [nm0, AVal.at, AVal.at1, Cell.at]) (by intros; rfl) (by intro n m h; exact (show n = m from h).symm) trivial fun S hS => ?_
  repeat refine gN ?_
  refine awp_rep3 (fun (i : Nat) (o : List Nat) (c : Nat) => ⟨lk' [(0, us l), (1, uv d), (2, iv k), (7, .c (.win (.loc 12) 0 k k)), (8, uv c), (9, iv i)], ov [(.loc 12, .ints 26 .u64 (U o))] (pushS S)⟩)
    (fun i o c => i ≤ k ∧ o.length = k ∧ rng H o ∧ c < 4294967296 ∧ val H (o.take i) + H ^ i * c = val H (l.take i) * d) (fun i _ _ => k - i)
    0 (List.replicate k 0) 0 ⟨Nat.zero_le _, by simp, rng_rep (by decide) _, by decide, by simp [val]⟩ ?_ ?_
  · rw [show ((k : Nat) : Int).toNat = k by omega]
    (refine frz hS (by exact rfl) ?_ ?_; all_goals (repeat' (first | refine fF ?_ ?_ | refine fS ?_ ?_ | exact True.intro)); all_goals (try (first | exact kv | (refine kW (ov_of lks) rfl ?_ ?_))))
    exact kO (U_rep _ 0)
  rintro i o c ⟨h1, h2, h3, h4, h5⟩
  have hlo := U_len o
  repeat refine gN ?_
  ((first | refine zw1 ?_ | refine zw2 ?_ | refine zw3 ?_); refine s_cmp (fun g1 => ?_) (fun g1 => ?_))
  · have hx : l.getD i 0 < 4294967296 := getD_lt (by decide) hl i
    have hta := val_take_succ H l i
    obtain ⟨x, hxe⟩ : ∃ x, x = l.getD i 0 := ⟨_, rfl⟩
    rw [← hxe] at hx hta
    have hxd : x * d ≤ 4294967295 * 4294967295 := Nat.mul_le_mul (Nat.le_of_lt_succ hx) (Nat.le_of_lt_succ hd)
    repeat refine gN ?_
    ((first | refine zw1 ?_ | refine zw2 ?_ | refine zw3 ?_); refine s_call (c_dig l i (by omega)) ?_)
    rw [← hxe]
    repeat refine gN ?_
    refine ⟨i + 1, o.set i ((x * d + c) % 4294967296), (x * d + c) / 4294967296, ?_, ⟨by omega, by simpa using h2, rng_set h3 (Nat.mod_lt _ (by decide)), by omega, ?_⟩, by omega⟩
    · (refine frz hS (by exact rfl) ?_ ?_; all_goals (repeat' (first | refine fF ?_ ?_ | refine fS ?_ ?_ | exact True.intro)); all_goals (try (first | exact kv | (refine kW (ov_of lks) rfl ?_ ?_))))
    · rw [val_set_take (by omega), hta, Nat.add_mul, ← h5, Nat.pow_succ, Nat.mul_assoc (H ^ i) H, Nat.add_assoc, ← Nat.mul_add, show (x * d + c) % 4294967296 + H * ((x * d + c) / 4294967296) = x * d + c from Nat.mod_add_div _ _, Nat.mul_add, Nat.mul_assoc]
      omega
  · repeat refine gN ?_
    have hi : i = k := by omega
    subst hi
    rw [take_all (by omega), take_all hlk] at h5
    have hc : c = 0 := by
      rcases Nat.eq_zero_or_pos c with q | q
      · exact q
      · have : H ^ i ≤ H ^ i * c := Nat.le_mul_of_pos_right _ q
        omega
    subst hc
    rw [← padH_of h3 h2 (by omega)]
    (refine endG ttOk (l := (.loc 12)) (fl' := [(6, .c (.win (.loc 12) 0 i i))]) (.inr rfl) hS (by exact rfl) (by exact rfl) ?_ ?_ (by exact rfl) (by exact rfl) (by exact rfl); all_goals (repeat' (first | refine fF ?_ ?_ | refine fS ?_ ?_ | exact True.intro); all_goals (try (first | exact kv | (refine kW (ov_of lks) rfl ?_ ?_)))))

theorem c_lessT (z : Nm) (pre w post y : List Nat) (q N cm : Nat) (hw : rng H w) (hwl : w.length = y.length + 1) (hy : rng H y) (hyl : y.length < 2 ^ 38) (hq : q < 4294967296) (hN : N = (pre ++ w ++ post).length) (hN2 : N < 2 ^ 40) (hcm : N ≤ cm) (hle : val H y * q ≤ val H w) :
    AProc Try.prog 101 [.c (.win z 0 N cm), iv pre.length, us y, uv q] [(z, oi (pre ++ w ++ post))] [(z, oi (pre ++ padH (y.length + 1) (val H w - val H y * q) ++ post))] (bvl true) := by
  have hlt : val H y * q < H ^ (y.length + 1) := Nat.lt_of_le_of_lt hle (by rw [← hwl]; exact val_lt hw)
  have hNl : N = pre.length + w.length + post.length := by rw [hN]; simp; omega
  (refine aproc1 (mu := muF) Try.func101 rfl (by decide) rfl (by decide) (Nat.le_of_ble_eq_true rfl) (by simp [AVal.at, AVal.at1, Cell.at]) (by simp [AVal.at, AVal.at1, Cell.at]) (by simp [AVal.at, AVal.at1, Cell.at]) (by first | exact cells_nm0 | exact trivial | (intro x hx m; simp at hx; rcases hx with rfl | rfl <;> first | exact fun h => h | exact Leaf.cell_nm _ _)) (by first | exact cells_nm0 | exact trivial | (intro x hx m; simp at hx; rcases hx with rfl | rfl <;> first | exact fun h => h | exact Leaf.cell_nm _ _)) fun S hS => ?_; simp only [List.map_cons, List.map_nil, AVal.map, AVal.map1, Cell.map])
  repeat refine gN ?_
  ((first | refine zw1 ?_ | refine zw2 ?_ | refine zw3 ?_); refine s_made (c_times0 y hy q (y.length + 1) hq (by omega) hlt (by omega)) ?_)
  obtain ⟨P, hP⟩ : ∃ P, P = padH (y.length + 1) (val H y * q) := ⟨_, rfl⟩
  have hPl : P.length = y.length + 1 := by rw [hP]; exact padH_len hlt
  have hPr : rng H P := by rw [hP]; exact padH_rng _ _
  have hPv : val H P = val H y * q := by rw [hP]; exact padH_val _ _
  rw [← hP]
  have hUP := U_len P
  refine aw_weak ⟨lk' [(0, .c (.win (.out z) 0 N cm)), (1, iv pre.length), (2, us y), (19, us P)], ov [(.out z, oi (pre ++ w ++ post))] (pushS S)⟩ ?_ ?_
  · (refine frz hS (by exact rfl) ?_ ?_; all_goals (repeat' (first | refine fF ?_ ?_ | refine fS ?_ ?_ | exact True.intro)); all_goals (try (first | exact kv | (refine kW (ov_of lks) rfl ?_ ?_))))
    · omega
    · rw [List.drop_zero, U_take, take_all (by omega)]
  repeat refine gN ?_
  refine awp_midB (fun st => Weak st ⟨lk' [(0, .c (.win (.out z) 0 N cm)), (1, iv pre.length), (2, us y), (9, us P)], ov [(.out z, oi (pre ++ w ++ post))] (pushS S)⟩) ?_ ?_
  · refine awp_rep (ι := Nat) (fun i => ⟨lk' [(0, .c (.win (.out z) 0 N cm)), (1, iv pre.length), (2, us y), (9, us P), (10, ivl .i64 ((i : Int) - 1))], ov [(.out z, oi (pre ++ w ++ post))] (pushS S)⟩) (fun i => i ≤ y.length + 1 ∧ P.drop i = w.drop i) (fun i => i)
      (y.length + 1) ⟨Nat.le_refl _, by rw [List.drop_of_length_le (by omega), List.drop_of_length_le (by omega)]⟩ ?_ ?_
    · (refine frz hS (by exact rfl) ?_ ?_; all_goals (repeat' (first | refine fF ?_ ?_ | refine fS ?_ ?_ | exact True.intro)); all_goals (try (first | exact kv | (refine kW (ov_of lks) rfl ?_ ?_))))
    rintro i ⟨h1, h2⟩
    repeat refine gN ?_
    ((first | refine zw1 ?_ | refine zw2 ?_ | refine zw3 ?_); refine s_cmp (fun g1 => ?_) (fun g1 => ?_))
    · obtain ⟨j, rfl⟩ : ∃ j, i = j + 1 := ⟨i - 1, by omega⟩
      rw [show ((j + 1 : Nat) : Int) - 1 = (j : Int) by omega]
      have hj : j < w.length := by omega
      have hm := mid_get (p := pre) (r := post) hj
      have hUw := U_len (pre ++ w ++ post)
      repeat refine gN ?_
      rw [hm]
      ((first | refine zw1 ?_ | refine zw2 ?_ | refine zw3 ?_); refine s_cmp (fun g2 => ?_) (fun g2 => ?_))
      · repeat refine gN ?_
        (refine frz hS (by exact rfl) ?_ ?_; all_goals (repeat' (first | refine fF ?_ ?_ | refine fS ?_ ?_ | exact True.intro)); all_goals (try (first | exact kv | (refine kW (ov_of lks) rfl ?_ ?_))))
      repeat refine gN ?_
      rw [hm]
      ((first | refine zw1 ?_ | refine zw2 ?_ | refine zw3 ?_); refine s_cmp (fun g3 => ?_) (fun g3 => ?_))
      · repeat refine gN ?_
        exfalso
        have : val H w < val H y * q := by
          have := val_top_lt hw (i := j) (m := P) (by omega) (by omega) h2.symm (by omega)
          rw [hPv] at this; omega
        omega
      · repeat refine gN ?_
        refine ⟨j, ?_, ⟨by omega, ?_⟩, by omega⟩
        · (refine frz hS (by exact rfl) ?_ ?_; all_goals (repeat' (first | refine fF ?_ ?_ | refine fS ?_ ?_ | exact True.intro)); all_goals (try (first | exact kv | (refine kW (ov_of lks) rfl ?_ ?_))))
        · rw [drop_getD (l := P) (by omega), drop_getD (l := w) hj, h2, show P.getD j 0 = w.getD j 0 by omega]
    · repeat refine gN ?_
      (refine frz hS (by exact rfl) ?_ ?_; all_goals (repeat' (first | refine fF ?_ ?_ | refine fS ?_ ?_ | exact True.intro)); all_goals (try (first | exact kv | (refine kW (ov_of lks) rfl ?_ ?_))))
  intro st hst
  refine awp_weak _ hst ?_
  clear hst st
  repeat refine gN ?_
  refine awp_midB (fun st => Weak st ⟨lk' [(0, .c (.win (.out z) 0 N cm))], ov [(.out z, oi (pre ++ padH (y.length + 1) (val H w - val H y * q) ++ post))] (pushS S)⟩) ?_ ?_
  · refine awp_rep3 (fun (i : Nat) (v : List Nat) (c : Nat) => ⟨lk' [(0, .c (.win (.out z) 0 N cm)), (1, iv pre.length), (2, us y), (9, us P), (11, uv c), (12, iv i)], ov [(.out z, oi (pre ++ v ++ post))] (pushS S)⟩)
      (fun i v c => i ≤ y.length + 1 ∧ v.length = y.length + 1 ∧ rng H v ∧ c ≤ 1 ∧ v.drop i = w.drop i ∧ val H (v.take i) + val H (P.take i) = val H (w.take i) + H ^ i * c) (fun i _ _ => y.length + 1 - i)
      0 w 0 ⟨Nat.zero_le _, hwl, hw, by omega, rfl, by simp [val]⟩ ?_ ?_
    · (refine frz hS (by exact rfl) ?_ ?_; all_goals (repeat' (first | refine fF ?_ ?_ | refine fS ?_ ?_ | exact True.intro)); all_goals (try (first | exact kv | (refine kW (ov_of lks) rfl ?_ ?_))))
    rintro i v c ⟨h1, h2, h3, h4, h5, h6⟩
    have hUv := U_len (pre ++ v ++ post)
    have hNv : (pre ++ v ++ post).length = N := by simp; omega
    repeat refine gN ?_
    ((first | refine zw1 ?_ | refine zw2 ?_ | refine zw3 ?_); refine s_cmp (fun g1 => ?_) (fun g1 => ?_))
    · have hi : i < v.length := by omega
      have hm := mid_get (p := pre) (r := post) hi
      have hms := fun s => mid_set (p := pre) (r := post) (s := s) hi
      have hvw : v.getD i 0 = w.getD i 0 := by
        have e := h5
        rw [drop_getD (l := v) hi, drop_getD (l := w) (by omega)] at e
        exact (List.cons.inj e).1
      have hx : w.getD i 0 < 4294967296 := getD_lt (by decide) hw i
      have hp : P.getD i 0 < 4294967296 := getD_lt (by decide) hPr i
      have htw := val_take_succ H w i
      have htp := val_take_succ H P i
      rw [hvw] at hm
      obtain ⟨x, hxe⟩ : ∃ x, x = w.getD i 0 := ⟨_, rfl⟩
      obtain ⟨k, hke⟩ : ∃ k, k = P.getD i 0 := ⟨_, rfl⟩
      rw [← hxe] at hm hx htw
      rw [← hke] at hp htp
      have hx' : (pre ++ v ++ post).getD (pre.length + i) 0 < 4294967296 := by rw [hm]; exact hx
      have hp' : P.getD i 0 < 4294967296 := by rw [← hke]; exact hp
      repeat refine gN ?_
      rw [hm, ← hke, hms]
      refine ⟨i + 1, v.set i ((4294967296 + x - k - c) % 4294967296), 1 - (4294967296 + x - k - c) / 4294967296, ?_, ⟨by omega, by simpa using h2, rng_set h3 (Nat.mod_lt _ (by decide)), by omega, ?_, ?_⟩, by omega⟩
      · (refine frz1 hS lks (by first | exact cells_nm0 | exact trivial | (intro x hx m; simp at hx; rcases hx with rfl | rfl <;> first | exact fun h => h | exact Leaf.cell_nm _ _)) (by intro m hm; simp [lkS, addL, delL, Nm.isLoc, hm]) (by exact rfl) ?_ trivial ?_)
        · rfl
        · (repeat' (first | refine fF ?_ ?_ | refine fS ?_ ?_ | exact True.intro); all_goals (try (first | exact kv | (refine kW (ov_of lks) rfl ?_ ?_))))
      · rw [drop_set_lt (by omega)]
        have e := h5
        rw [drop_getD (l := v) hi, drop_getD (l := w) (by omega)] at e
        exact (List.cons.inj e).2
      · rw [val_set_take hi, htw, htp]
        exact sub_step H (H ^ i) _ _ _ x k c _ _ h6 (show _ = x + 4294967296 * _ by omega)
    · repeat refine gN ?_
      have hi : i = y.length + 1 := by omega
      subst hi
      rw [take_all (by omega), take_all (by omega), take_all (by omega), hPv] at h6
      have hc : c = 0 := by
        rcases Nat.eq_zero_or_pos c with g | g
        · exact g
        · have e := val_lt h3
          rw [h2] at e
          have : H ^ (y.length + 1) ≤ H ^ (y.length + 1) * c := Nat.le_mul_of_pos_right _ g
          omega
      subst hc
      rw [← padH_of h3 h2 (by omega)]
      (refine frz hS (by exact rfl) ?_ ?_; all_goals (repeat' (first | refine fF ?_ ?_ | refine fS ?_ ?_ | exact True.intro)); all_goals (try (first | exact kv | (refine kW (ov_of lks) rfl ?_ ?_))))
  intro st hst
  refine awp_weak _ hst ?_
  clear hst st
  repeat refine gN ?_
  (refine endP1 ttOk (fl' := [(8, bvl true)]) (.inr rfl) hS lks (by first | exact cells_nm0 | exact trivial | (intro x hx m; simp at hx; rcases hx with rfl | rfl <;> first | exact fun h => h | exact Leaf.cell_nm _ _)) (by intro m hm; simp [lkS, addL, delL, Nm.isLoc, hm]) ?_ ?_ (by exact rfl) (by exact rfl) (by exact rfl))
  · rfl
  · (repeat' (first | refine fF ?_ ?_ | refine fS ?_ ?_ | exact True.intro); all_goals (try (first | exact kv | (refine kW (ov_of lks) rfl ?_ ?_))))

theorem c_lessF (z : Nm) (pre w post y : List Nat) (q N cm : Nat) (hw : rng H w) (hwl : w.length = y.length + 1) (hy : rng H y) (hyl : y.length < 2 ^ 38) (hq : q < 4294967296) (hN : N = (pre ++ w ++ post).length) (hN2 : N < 2 ^ 40) (hcm : N ≤ cm) (hle : val H w < val H y * q) :
    AProc Try.prog 101 [.c (.win z 0 N cm), iv pre.length, us y, uv q] [(z, oi (pre ++ w ++ post))] [(z, oi (pre ++ w ++ post))] (bvl false) := by
  have hlt : val H y * q < H ^ (y.length + 1) := by
    rw [Nat.pow_succ]
    exact Nat.mul_lt_mul'' (val_lt hy) hq
  have hNl : N = pre.length + w.length + post.length := by rw [hN]; simp; omega
  (refine aproc1 (mu := muF) Try.func101 rfl (by decide) rfl (by decide) (Nat.le_of_ble_eq_true rfl) (by simp [AVal.at, AVal.at1, Cell.at]) (by simp [AVal.at, AVal.at1, Cell.at]) (by simp [AVal.at, AVal.at1, Cell.at]) (by first | exact cells_nm0 | exact trivial | (intro x hx m; simp at hx; rcases hx with rfl | rfl <;> first | exact fun h => h | exact Leaf.cell_nm _ _)) (by first | exact cells_nm0 | exact trivial | (intro x hx m; simp at hx; rcases hx with rfl | rfl <;> first | exact fun h => h | exact Leaf.cell_nm _ _)) fun S hS => ?_; simp only [List.map_cons, List.map_nil, AVal.map, AVal.map1, Cell.map])
  repeat refine gN ?_
  ((first | refine zw1 ?_ | refine zw2 ?_ | refine zw3 ?_); refine s_made (c_times0 y hy q (y.length + 1) hq (by omega) hlt (by omega)) ?_)
  obtain ⟨P, hP⟩ : ∃ P, P = padH (y.length + 1) (val H y * q) := ⟨_, rfl⟩
  have hPl : P.length = y.length + 1 := by rw [hP]; exact padH_len hlt
  have hPr : rng H P := by rw [hP]; exact padH_rng _ _
  have hPv : val H P = val H y * q := by rw [hP]; exact padH_val _ _
  rw [← hP]
  have hUP := U_len P
  refine aw_weak ⟨lk' [(0, .c (.win (.out z) 0 N cm)), (1, iv pre.length), (2, us y), (19, us P)], ov [(.out z, oi (pre ++ w ++ post))] (pushS S)⟩ ?_ ?_
  · (refine frz hS (by exact rfl) ?_ ?_; all_goals (repeat' (first | refine fF ?_ ?_ | refine fS ?_ ?_ | exact True.intro)); all_goals (try (first | exact kv | (refine kW (ov_of lks) rfl ?_ ?_))))
    · omega
    · rw [List.drop_zero, U_take, take_all (by omega)]
  repeat refine gN ?_
  refine awp_rep (ι := Nat) (fun i => ⟨lk' [(0, .c (.win (.out z) 0 N cm)), (1, iv pre.length), (2, us y), (9, us P), (10, ivl .i64 ((i : Int) - 1))], ov [(.out z, oi (pre ++ w ++ post))] (pushS S)⟩) (fun i => i ≤ y.length + 1 ∧ P.drop i = w.drop i) (fun i => i)
    (y.length + 1) ⟨Nat.le_refl _, by rw [List.drop_of_length_le (by omega), List.drop_of_length_le (by omega)]⟩ ?_ ?_
  · (refine frz hS (by exact rfl) ?_ ?_; all_goals (repeat' (first | refine fF ?_ ?_ | refine fS ?_ ?_ | exact True.intro)); all_goals (try (first | exact kv | (refine kW (ov_of lks) rfl ?_ ?_))))
  rintro i ⟨h1, h2⟩
  repeat refine gN ?_
  ((first | refine zw1 ?_ | refine zw2 ?_ | refine zw3 ?_); refine s_cmp (fun g1 => ?_) (fun g1 => ?_))
  · obtain ⟨j, rfl⟩ : ∃ j, i = j + 1 := ⟨i - 1, by omega⟩
    rw [show ((j + 1 : Nat) : Int) - 1 = (j : Int) by omega]
    have hj : j < w.length := by omega
    have hm := mid_get (p := pre) (r := post) hj
    have hUw := U_len (pre ++ w ++ post)
    repeat refine gN ?_
    rw [hm]
    ((first | refine zw1 ?_ | refine zw2 ?_ | refine zw3 ?_); refine s_cmp (fun g2 => ?_) (fun g2 => ?_))
    · repeat refine gN ?_
      exfalso
      have : val H y * q < val H w := by
        have := val_top_lt hPr (i := j) (m := w) (by omega) (by omega) h2 (by omega)
        rw [hPv] at this; omega
      omega
    repeat refine gN ?_
    rw [hm]
    ((first | refine zw1 ?_ | refine zw2 ?_ | refine zw3 ?_); refine s_cmp (fun g3 => ?_) (fun g3 => ?_))
    · repeat refine gN ?_
      (refine endP1 ttOk (fl' := [(8, bvl false)]) (.inr rfl) hS lks (by first | exact cells_nm0 | exact trivial | (intro x hx m; simp at hx; rcases hx with rfl | rfl <;> first | exact fun h => h | exact Leaf.cell_nm _ _)) (by intro m hm; simp [lkS, addL, delL, Nm.isLoc, hm]) ?_ ?_ (by exact rfl) (by exact rfl) (by exact rfl))
      · rfl
      · (repeat' (first | refine fF ?_ ?_ | refine fS ?_ ?_ | exact True.intro); all_goals (try (first | exact kv | (refine kW (ov_of lks) rfl ?_ ?_))))
    · repeat refine gN ?_
      refine ⟨j, ?_, ⟨by omega, ?_⟩, by omega⟩
      · (refine frz hS (by exact rfl) ?_ ?_; all_goals (repeat' (first | refine fF ?_ ?_ | refine fS ?_ ?_ | exact True.intro)); all_goals (try (first | exact kv | (refine kW (ov_of lks) rfl ?_ ?_))))
      · rw [drop_getD (l := P) (by omega), drop_getD (l := w) hj, h2, show P.getD j 0 = w.getD j 0 by omega]
  · repeat refine gN ?_
    exfalso
    have hi : i = 0 := by omega
    subst hi
    rw [List.drop_zero, List.drop_zero] at h2
    rw [h2] at hPv; omega
end Go.Proofs

/-
  The reference: long, NatDiv.
-/
namespace Go.Proofs
open Go Go.Abs Go.Nums
attribute [local irreducible] thenA blockA awp aw Stp EndF EndP EndN EndG aOps
set_option linter.unusedSimpArgs false
set_option maxHeartbeats 4000000

/-- A number in three parts. -/
theorem parts {u : List Nat} {i m : Nat} (h : i + m + 1 ≤ u.length) : u = u.take i ++ (u.drop i).take (m + 1) ++ u.drop (i + m + 1) := by
  have h1 : u = u.take i ++ u.drop i := (List.take_append_drop i u).symm
  have h2 : u.drop i = (u.drop i).take (m + 1) ++ u.drop (i + m + 1) := by
    conv => lhs; rw [← List.take_append_drop (m + 1) (u.drop i)]
    rw [List.drop_drop, Nat.add_assoc]
  rw [List.append_assoc, ← h2, ← h1]

theorem top_of {V m : Nat} {l : List Nat} (hr : rng H l) (hl : l.length = m + 1) (hv : val H l = V) : H ^ m * l.getD m 0 ≤ V ∧ V < H ^ m * (l.getD m 0 + 1) := by
  have h := val_last H hl
  have h2 := val_take_lt hr (i := m) (by omega)
  rw [hv] at h
  rw [Nat.mul_add]
  omega

/-- The guess is not too small. -/
theorem guess {W V m t2 t1 vt Q : Nat} (hW : W < H ^ m * (t2 * 4294967296 + t1 + 1)) (hV : H ^ m * vt ≤ V) (hvt : 0 < vt) (hQ : Q * V ≤ W) : Q ≤ (t2 * 4294967296 + t1) / vt := by
  rw [Nat.le_div_iff_mul_le hvt]
  have h1 : H ^ m * (Q * vt) ≤ W := by
    have := Nat.mul_le_mul_left Q hV
    rw [Nat.mul_left_comm] at this
    exact Nat.le_trans this hQ
  have h2 : H ^ m * (Q * vt) < H ^ m * (t2 * 4294967296 + t1 + 1) := Nat.lt_of_le_of_lt h1 hW
  have := Nat.lt_of_mul_lt_mul_left h2
  omega

theorem scale_lt {b m yt s : Nat} (hb : b < H ^ m * (yt + 1)) (hs : s = 4294967296 / (yt + 1)) (hs0 : 0 < s) : b * s < H ^ (m + 1) := by
  have h1 : b * s < H ^ m * (yt + 1) * s := Nat.mul_lt_mul_of_pos_right hb hs0
  have h2 : (yt + 1) * s ≤ 4294967296 := by rw [hs]; exact Nat.mul_div_le _ _
  have h3 : H ^ m * ((yt + 1) * s) ≤ H ^ m * 4294967296 := Nat.mul_le_mul_left _ h2
  rw [Nat.pow_succ]
  rw [Nat.mul_assoc] at h1
  exact Nat.lt_of_lt_of_le h1 h3

theorem win_top {l : List Nat} {m W : Nat} (hr : rng H l) (hl : m + 2 ≤ l.length) (hv : val H l = W) (hW : W < H ^ (m + 2)) :
    val H (l.take (m + 2)) = W ∧ val H (l.drop (m + 2)) = 0 ∧ W < H ^ m * (l.getD (m + 1) 0 * 4294967296 + l.getD m 0 + 1) := by
  have h1 := val_split H hl
  rw [hv] at h1
  have h2 : val H (l.drop (m + 2)) = 0 := by
    rcases Nat.eq_zero_or_pos (val H (l.drop (m + 2))) with q | q
    · exact q
    · have : H ^ (m + 2) ≤ H ^ (m + 2) * val H (l.drop (m + 2)) := Nat.le_mul_of_pos_right _ q
      omega
  rw [h2, Nat.mul_zero, Nat.add_zero] at h1
  refine ⟨h1.symm, h2, ?_⟩
  have h3 := val_take_succ H l (m + 1)
  have h4 := val_take_succ H l m
  have h5 := val_take_lt hr (i := m) (by omega)
  rw [h4, Nat.pow_succ, Nat.mul_assoc] at h3
  have h6 : val H (l.take (m + 2)) = val H (l.take m) + H ^ m * l.getD m 0 + H ^ m * (H * l.getD (m + 1) 0) := h3
  rw [show l.getD (m + 1) 0 * 4294967296 = H * l.getD (m + 1) 0 from Nat.mul_comm _ _, Nat.mul_add, Nat.mul_add, Nat.mul_one]
  omega
theorem getD_drop (l : List Nat) (i j : Nat) : (l.drop i).getD j 0 = l.getD (i + j) 0 := by
  rw [List.getD_eq_getElem?_getD, List.getElem?_drop, ← List.getD_eq_getElem?_getD]

theorem c_long (a b : Nat) (hb : (digs H b).length ≠ 0) (hab : (digs H b).length ≤ (digs H a).length) (ha : (digs H a).length < 2 ^ 38) : AFun Try.prog 93 [us (digs H a), us (digs H b)] (.tup [us (digs H (a / b)), us (digs H (a % b))]) := by
  obtain ⟨m, hm⟩ : ∃ m, (digs H b).length = m + 1 := ⟨(digs H b).length - 1, by omega⟩
  obtain ⟨n, hn⟩ : ∃ n, n = (digs H a).length := ⟨_, rfl⟩
  have hyr : (digs H b).getD m 0 < 4294967296 := getH_lt b m
  have hy0 : (digs H b).getD m 0 ≠ 0 := by
    have hne : digs H b ≠ [] := fun q => by rw [q] at hm; simp at hm
    have := digs_top hH hne
    rw [getLast_getD hne, hm] at this
    exact this
  obtain ⟨hyl, hyu⟩ := top_of (rng_digs hH b) hm (val_digs hH b)
  obtain ⟨s, hs⟩ : ∃ s, s = 4294967296 / ((digs H b).getD m 0 + 1) := ⟨_, rfl⟩
  have hs0 : 0 < s := by rw [hs]; exact Nat.div_pos (by omega) (by omega)
  have hsH : s < 4294967296 := by
    rw [hs]; exact Nat.div_lt_self (by decide) (by omega)
  have hVlt := scale_lt hyu hs hs0
  have hav : a < H ^ n := by rw [hn]; exact digs_lt hH a
  have hAlt : a * s < H ^ (n + 1) := by rw [Nat.pow_succ]; exact Nat.mul_lt_mul'' hav hsH
  have hb0 : 0 < b := by
    rcases Nat.eq_zero_or_pos b with q | q
    · rw [q, digs_zero] at hm; simp at hm
    · exact q
  obtain ⟨A, hA⟩ : ∃ A, A = a * s := ⟨_, rfl⟩
  obtain ⟨Y, hY⟩ : ∃ Y, Y = b * s := ⟨_, rfl⟩
  have hY0 : 0 < Y := by rw [hY]; exact Nat.mul_pos hb0 hs0
  obtain ⟨V, hV⟩ : ∃ V, V = padH (m + 1) Y := ⟨_, rfl⟩
  have hVl : V.length = m + 1 := by rw [hV]; exact padH_len (by rw [hY]; exact hVlt)
  have hVr : rng H V := by rw [hV]; exact padH_rng _ _
  have hVv : val H V = Y := by rw [hV]; exact padH_val _ _
  obtain ⟨hvl, hvu⟩ := top_of hVr hVl hVv
  have hvt : 0 < V.getD m 0 := by
    rcases Nat.eq_zero_or_pos (V.getD m 0) with q | q
    · rw [q] at hvu
      have h1 : H ^ m * (digs H b).getD m 0 ≤ b * s := Nat.le_trans hyl (Nat.le_mul_of_pos_right _ hs0)
      have h2 : H ^ m * 1 ≤ H ^ m * (digs H b).getD m 0 := Nat.mul_le_mul_left _ (by omega)
      omega
    · exact q
  have hUb := U_len (digs H b)
  have hUV := U_len V
  refine afun (mu := muF) Try.func93 rfl (by decide) rfl (by decide) (Nat.le_of_ble_eq_true rfl) (by simp [nm0, AVal.at, AVal.at1, Cell.at]) (by simp [nm0, AVal.at, AVal.at1, Cell.at]) fun S hS => ?_
  have e1 : (((digs H b).length : Int) - 1).toNat = m := by omega
  repeat refine gN ?_
  rw [e1]
  repeat refine gN ?_
  rw [← hs, ← hn]
  ((first | refine zw1 ?_ | refine zw2 ?_ | refine zw3 ?_); refine s_made (c_times0 (digs H a) (rng_digs hH a) s (n + 1) hsH (by omega) (by rw [val_digs hH]; exact hAlt) (by omega)) ?_)
  rw [val_digs hH, ← hA]
  repeat refine gN ?_
  rw [hm]
  ((first | refine zw1 ?_ | refine zw2 ?_ | refine zw3 ?_); refine s_made (c_times0 (digs H b) (rng_digs hH b) s (m + 1) hsH (by omega) (by rw [val_digs hH]; exact hVlt) (by omega)) ?_)
  rw [val_digs hH, ← hY, ← hV]
  refine aw_weak ⟨lk' [(0, us (digs H a)), (1, us (digs H b)), (6, uv s), (7, .c (.win (.loc 28) 0 (n + 1) (n + 1))), (33, us V)], ov [(.loc 28, oi (padH (n + 1) A))] (pushS S)⟩ ?_ ?_
  · (refine frz hS (by exact rfl) ?_ ?_; all_goals (repeat' (first | refine fF ?_ ?_ | refine fS ?_ ?_ | exact True.intro)); all_goals (try (first | exact kv | (refine kW (ov_of lks) rfl ?_ ?_))))
    · omega
    · rw [List.drop_zero, U_take, take_all (by omega)]
  repeat refine gN ?_
  obtain ⟨K, hK⟩ : ∃ K, n + 1 = K + (m + 1) := ⟨n - m, by omega⟩
  refine awp_midB (fun st => ∃ u o : List Nat, Weak st ⟨lk' [(6, uv s), (7, .c (.win (.loc 28) 0 (n + 1) (n + 1))), (9, .c (.win (.loc 40) 0 K K))], ov [(.loc 28, oi u), (.loc 40, oi o)] (pushS S)⟩ ∧ u.length = n + 1 ∧ rng H u ∧ o.length = K ∧ rng H o ∧ val H u = A % Y ∧ val H o = A / Y) ?_ ?_
  · refine awp_rep3 (fun (k : Nat) (u o : List Nat) => ⟨lk' [(6, uv s), (7, .c (.win (.loc 28) 0 (n + 1) (n + 1))), (8, us V), (9, .c (.win (.loc 40) 0 K K)), (10, ivl .i64 ((k : Int) - 1))], ov [(.loc 28, oi u), (.loc 40, oi o)] (pushS S)⟩)
      (fun k u o => k ≤ K ∧ u.length = n + 1 ∧ rng H u ∧ o.length = K ∧ rng H o ∧ val H u + H ^ k * (val H (o.drop k) * Y) = A ∧ val H (u.drop k) < Y) (fun k _ _ => k)
      K (padH (n + 1) A) (List.replicate K 0) ⟨Nat.le_refl _, padH_len (by rw [hA]; exact hAlt), padH_rng _ _, by simp, rng_rep (by decide) _, ?_, ?_⟩ ?_ ?_
    · rw [padH_val, List.drop_of_length_le (by simp)]; simp [val]
    · have h1 := val_split H (l := padH (n + 1) A) (i := K) (by rw [padH_len (by rw [hA]; exact hAlt)]; omega)
      rw [padH_val] at h1
      have h2 : A < H ^ K * Y := by
        have h3 : a < H ^ K * b := by
          have h4 : H ^ m * 1 ≤ b := Nat.le_trans (Nat.mul_le_mul_left _ (by omega)) hyl
          have h5 : H ^ K * (H ^ m * 1) ≤ H ^ K * b := Nat.mul_le_mul_left _ h4
          rw [Nat.mul_one, ← Nat.pow_add, show K + m = n by omega] at h5
          omega
        rw [hA, hY, ← Nat.mul_assoc]
        exact Nat.mul_lt_mul_of_pos_right h3 hs0
      have h6 : H ^ K * val H ((padH (n + 1) A).drop K) < H ^ K * Y := by omega
      exact Nat.lt_of_mul_lt_mul_left h6
    · rw [show (((digs H a).length : Int) - ((digs H b).length : Int) + 1).toNat = K by omega]
      (refine frz hS (by exact rfl) ?_ ?_; all_goals (repeat' (first | refine fF ?_ ?_ | refine fS ?_ ?_ | exact True.intro)); all_goals (try (first | exact kv | (refine kW (ov_of lks) rfl ?_ ?_))))
      exact kO (U_rep _ 0)
    rintro k u o ⟨h1, h2, h3, h4, h5, h6, h7⟩
    have hUu := U_len u
    have hUo := U_len o
    repeat refine gN ?_
    ((first | refine zw1 ?_ | refine zw2 ?_ | refine zw3 ?_); refine s_cmp (fun g1 => ?_) (fun g1 => ?_))
    · obtain ⟨i, rfl⟩ : ∃ i, k = i + 1 := ⟨k - 1, by omega⟩
      rw [show ((i + 1 : Nat) : Int) - 1 = (i : Int) by omega]
      have hil : i + m + 2 ≤ u.length := by omega
      have hdr := drop_getD (l := u) (i := i) (by omega)
      have hvd : val H (u.drop i) = u.getD i 0 + H * val H (u.drop (i + 1)) := by rw [hdr, val_cons]
      have hu0 := getD_lt (b := H) (by decide) h3 i
      obtain ⟨W, hW⟩ : ∃ W, W = val H (u.drop i) := ⟨_, rfl⟩
      have hWY : W < H * Y := by
        have : H * (val H (u.drop (i + 1)) + 1) ≤ H * Y := Nat.mul_le_mul_left _ h7
        rw [Nat.mul_add] at this; omega
      have hYl : Y < H ^ (m + 1) := by rw [hY]; exact hVlt
      have hWl : W < H ^ (m + 2) := by
        have : H * Y ≤ H * H ^ (m + 1) := Nat.mul_le_mul_left _ (Nat.le_of_lt hYl)
        rw [Nat.mul_comm H (H ^ (m + 1)), ← Nat.pow_succ] at this
        exact Nat.lt_of_lt_of_le hWY this
      obtain ⟨p1, p2, p3⟩ := win_top (rng_drop h3 i) (by rw [List.length_drop]; omega) hW.symm hWl
      rw [getD_drop, getD_drop] at p3
      have i2 : 0 + (((i + V.length : Nat) : Int) - 1).toNat = i + m := by omega
      have i3 : ((V.length : Int) - 1).toNat = m := by omega
      have i1 : i + V.length = i + (m + 1) := by omega
      have b1 : u.getD (i + V.length) 0 < 4294967296 := getD_lt (by decide) h3 _
      have b2 : u.getD (0 + (((i + V.length : Nat) : Int) - 1).toNat) 0 < 4294967296 := getD_lt (by decide) h3 _
      have b3 : V.getD ((V.length : Int) - 1).toNat 0 ≠ 0 := by rw [i3]; omega
      obtain ⟨w, hwd⟩ : ∃ w, w = (u.drop i).take (m + 2) := ⟨_, rfl⟩
      obtain ⟨post, hpo⟩ : ∃ w, w = u.drop (i + m + 2) := ⟨_, rfl⟩
      obtain ⟨pre, hpr⟩ : ∃ w, w = u.take i := ⟨_, rfl⟩
      have hpl : pre.length = i := by rw [hpr]; simp; omega
      have hwl : w.length = V.length + 1 := by rw [hwd, hVl]; simp; omega
      have hwr : rng H w := by rw [hwd]; exact rng_take (rng_drop h3 _) _
      have hparts : u = pre ++ w ++ post := by rw [hpr, hwd, hpo]; exact parts (m := m + 1) (by omega)
      have hpv : val H post = 0 := by rw [hpo, show i + m + 2 = i + (m + 2) by omega, ← List.drop_drop]; exact p2
      rw [← hwd] at p1
      have hT : ∀ q, Y * q ≤ W → q < 4294967296 → AProc Try.prog 101 [.c (.win (.loc 28) 0 (n + 1) (n + 1)), iv i, us V, uv q] [(.loc 28, oi u)] [(.loc 28, oi (pre ++ padH (V.length + 1) (W - Y * q) ++ post))] (bvl true) := fun q g1 g2 => by
        have h := c_lessT (.loc 28) pre w post V q (n + 1) (n + 1) hwr hwl hVr (by omega) g2 (by rw [← hparts]; exact h2.symm) (by omega) (Nat.le_refl _) (by rw [hVv, p1]; exact g1)
        rw [← hparts, hpl, hVv, p1] at h; exact h
      have hF : ∀ q, W < Y * q → q < 4294967296 → AProc Try.prog 101 [.c (.win (.loc 28) 0 (n + 1) (n + 1)), iv i, us V, uv q] [(.loc 28, oi u)] [(.loc 28, oi u)] (bvl false) := fun q g1 g2 => by
        have h := c_lessF (.loc 28) pre w post V q (n + 1) (n + 1) hwr hwl hVr (by omega) g2 (by rw [← hparts]; exact h2.symm) (by omega) (Nat.le_refl _) (by rw [hVv, p1]; exact g1)
        rw [← hparts, hpl] at h; exact h
      obtain ⟨Q, hQ⟩ : ∃ Q, Q = W / Y := ⟨_, rfl⟩
      have hQ1 : Y * Q ≤ W := by rw [hQ]; exact Nat.mul_div_le _ _
      have hQ2 : ∀ q, Y * q ≤ W → q ≤ Q := fun q h => by rw [hQ, Nat.le_div_iff_mul_le hY0, Nat.mul_comm]; exact h
      have hQH : Q < 4294967296 := by rw [hQ, Nat.div_lt_iff_lt_mul hY0]; exact hWY
      have hQg := guess p3 hvl hvt (by rw [Nat.mul_comm]; exact hQ1)
      repeat refine gN ?_
      rw [i2, i3, i1]
      obtain ⟨g0, hg0⟩ : ∃ g, g = (u.getD (i + (m + 1)) 0 * 4294967296 + u.getD (i + m) 0) / V.getD m 0 := ⟨_, rfl⟩
      rw [← hg0] at hQg ⊢
      refine awp_midB (fun st => Weak st ⟨lk' [(6, uv s), (7, .c (.win (.loc 28) 0 (n + 1) (n + 1))), (8, us V), (9, .c (.win (.loc 40) 0 K K)), (10, iv i), (12, uv Q)], ov [(.loc 28, oi (pre ++ padH (V.length + 1) (W - Y * Q) ++ post)), (.loc 40, oi o)] (pushS S)⟩) ?_ ?_
      · refine awp_rep (ι := Nat) (fun q => ⟨lk' [(6, uv s), (7, .c (.win (.loc 28) 0 (n + 1) (n + 1))), (8, us V), (9, .c (.win (.loc 40) 0 K K)), (10, iv i), (12, uv q)], ov [(.loc 28, oi u), (.loc 40, oi o)] (pushS S)⟩) (fun q => Q ≤ q ∧ q ≤ 4294967295) (fun q => q) (min g0 4294967295) ⟨by omega, by omega⟩ ?_ ?_
        · (refine frz hS (by exact rfl) ?_ ?_; all_goals (repeat' (first | refine fF ?_ ?_ | refine fS ?_ ?_ | exact True.intro)); all_goals (try (first | exact kv | (refine kW (ov_of lks) rfl ?_ ?_))))
          all_goals exact kN (by split <;> omega)
        rintro q ⟨j1, j2⟩
        repeat refine gN ?_
        by_cases hq : Y * q ≤ W
        · have hqQ : q = Q := Nat.le_antisymm (hQ2 q hq) j1
          subst hqQ
          ((first | refine zw1 ?_ | refine zw2 ?_ | refine zw3 ?_); refine s_proc (hT q hq hQH) ?_ (by intro p hp; first | (simp only [List.mem_singleton] at hp; subst hp; exact lks) | (simp only [List.mem_cons, List.not_mem_nil, or_false] at hp; rcases hp with rfl | rfl <;> exact lks)))
          repeat refine gN ?_
          (refine frz hS (by exact rfl) ?_ ?_; all_goals (repeat' (first | refine fF ?_ ?_ | refine fS ?_ ?_ | exact True.intro)); all_goals (try (first | exact kv | (refine kW (ov_of lks) rfl ?_ ?_))))
        · have hqQ : q ≠ Q := fun e => hq (by rw [e]; exact hQ1)
          ((first | refine zw1 ?_ | refine zw2 ?_ | refine zw3 ?_); refine s_proc (hF q (by omega) (by omega)) ?_ (by intro p hp; first | (simp only [List.mem_singleton] at hp; subst hp; exact lks) | (simp only [List.mem_cons, List.not_mem_nil, or_false] at hp; rcases hp with rfl | rfl <;> exact lks)))
          repeat refine gN ?_
          refine ⟨q - 1, ?_, ⟨by omega, by omega⟩, by omega⟩
          (refine frz hS (by exact rfl) ?_ ?_; all_goals (repeat' (first | refine fF ?_ ?_ | refine fS ?_ ?_ | exact True.intro)); all_goals (try (first | exact kv | (refine kW (ov_of lks) rfl ?_ ?_))))
      intro st hst
      refine awp_weak _ hst ?_
      clear hst st
      obtain ⟨R, hR⟩ : ∃ R, R = W - Y * Q := ⟨_, rfl⟩
      have hRY : R < Y := by
        have e1 := Nat.div_add_mod W Y
        have e2 := Nat.mod_lt W hY0
        rw [← hQ] at e1; omega
      have hRl : R < H ^ (V.length + 1) := by rw [hVl]; exact Nat.lt_trans hRY (Nat.lt_of_lt_of_le hYl (Nat.pow_le_pow_right (by decide) (by omega)))
      have hpadl := padH_len hRl
      rw [← hR]
      repeat refine gN ?_
      refine ⟨i, pre ++ padH (V.length + 1) R ++ post, o.set i Q, ?_, ⟨by omega, ?_, ?_, by simpa using h4, rng_set h5 hQH, ?_, ?_⟩, by omega⟩
      · (refine frz hS (by exact rfl) ?_ ?_; all_goals (repeat' (first | refine fF ?_ ?_ | refine fS ?_ ?_ | exact True.intro)); all_goals (try (first | exact kv | (refine kW (ov_of lks) rfl ?_ ?_))))
      · rw [List.length_append, List.length_append, hpadl, ← hwl, ← List.length_append, ← List.length_append, ← hparts]; exact h2
      · exact rng_append.2 ⟨rng_append.2 ⟨by rw [hpr]; exact rng_take h3 _, padH_rng _ _⟩, by rw [hpo]; exact rng_drop h3 _⟩
      · have e3 := h6
        rw [hparts, val_append, val_append, hpv, Nat.mul_zero, Nat.add_zero, p1, hpl] at e3
        rw [val_append, val_append, hpv, Nat.mul_zero, Nat.add_zero, padH_val, hpl, drop_set_at (by omega), val_cons, ← e3]
        have e4 : W = R + Y * Q := by omega
        rw [e4, Nat.mul_add, Nat.add_mul, Nat.mul_add (H ^ i), Nat.pow_succ, Nat.mul_comm Q Y, Nat.mul_assoc (H ^ i) H, Nat.mul_assoc H]
        omega
      · rw [List.append_assoc, show (pre ++ (padH (V.length + 1) R ++ post)).drop i = padH (V.length + 1) R ++ post by rw [← hpl]; simp, val_append, hpv, padH_val]; simpa using hRY
    · repeat refine gN ?_
      have hk0 : k = 0 := by omega
      subst hk0
      rw [List.drop_zero, Nat.pow_zero, Nat.one_mul] at h6
      rw [List.drop_zero] at h7
      refine ⟨u, o, ?_, h2, h3, h4, h5, ?_, ?_⟩
      · (refine frz hS (by exact rfl) ?_ ?_; all_goals (repeat' (first | refine fF ?_ ?_ | refine fS ?_ ?_ | exact True.intro)); all_goals (try (first | exact kv | (refine kW (ov_of lks) rfl ?_ ?_))))
      · rw [← h6, Nat.add_mul_mod_self_right, Nat.mod_eq_of_lt h7]
      · rw [← h6, Nat.add_mul_div_right _ _ hY0, Nat.div_eq_of_lt h7, Nat.zero_add]
  rintro st ⟨u, o, hw, h2, h3, h4, h5, h6, h7⟩
  refine awp_weak _ hw ?_
  clear hw st
  have hUu := U_len u
  have hUo := U_len o
  have e6 : A % Y = a % b * s := by rw [hA, hY, Nat.mul_mod_mul_right]
  have e7 : A / Y = a / b := by rw [hA, hY, Nat.mul_div_mul_right _ _ hs0]
  rw [e6] at h6
  rw [e7] at h7
  have hul : (digs H (val H u)).length ≤ n + 1 := by rw [digs_len hH, ← h2]; exact val_lt h3
  repeat refine gN ?_
  refine aw_weak ⟨lk' [(6, uv s), (89, us u), (9, .c (.win (.loc 40) 0 K K))], ov [(.loc 40, oi o)] (pushS S)⟩ ?_ ?_
  · (refine frz hS (by exact rfl) ?_ ?_; all_goals (repeat' (first | refine fF ?_ ?_ | refine fS ?_ ?_ | exact True.intro)); all_goals (try (first | exact kv | (refine kW (ov_of lks) rfl ?_ ?_))))
    · omega
    · rw [List.drop_zero, U_take, take_all (by omega)]
  ((first | refine zw1 ?_ | refine zw2 ?_ | refine zw3 ?_); refine s_call (c_low u h3 (by omega)) ?_)
  repeat refine gN ?_
  ((first | refine zw1 ?_ | refine zw2 ?_ | refine zw3 ?_); refine s_call (c_short0 (digs H (val H u)) (rng_digs hH _) (by omega) s hs0 (by omega)) ?_)
  rw [val_digs hH, h6, Nat.mul_div_cancel _ hs0]
  repeat refine gN ?_
  refine aw_weak ⟨lk' [(13, us (digs H (a % b))), (95, us o)], ov [] (pushS S)⟩ ?_ ?_
  · (refine frz hS (by exact rfl) ?_ ?_; all_goals (repeat' (first | refine fF ?_ ?_ | refine fS ?_ ?_ | exact True.intro)); all_goals (try (first | exact kv | (refine kW (ov_of lks) rfl ?_ ?_))))
    · omega
    · rw [List.drop_zero, U_take, take_all (by omega)]
  ((first | refine zw1 ?_ | refine zw2 ?_ | refine zw3 ?_); refine s_call (c_low o h5 (by omega)) ?_)
  rw [h7]
  repeat refine gN ?_
  (refine endF ttOk (.inr rfl) hS (by exact rfl) ?_ (fl' := [(4, us (digs H (a / b))), (5, us (digs H (a % b)))]) (by exact rfl) (by exact rfl) (by exact rfl); (repeat' (first | refine fF ?_ ?_ | refine fS ?_ ?_ | exact True.intro); all_goals (try (first | exact kv | (refine kW (ov_of lks) rfl ?_ ?_)))))
end Go.Proofs
