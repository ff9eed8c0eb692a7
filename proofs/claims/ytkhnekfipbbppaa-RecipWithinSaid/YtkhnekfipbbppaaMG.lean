/-
  An abstract machine for this program, contracts of its functions: part MG (no statement by itself).
-/
import Derived.Test.YtkhnekfipbbppaaMT
import Derived.Test.YtkhnekfipbbppaaMF
import Derived.Test.YtkhnekfipbbppaaMEc
set_option linter.unusedVariables false
set_option linter.unusedSimpArgs false

/-
  The plain law of the steps towards a reciprocal.
-/
namespace Go.Proofs
open Go Go.Nums
set_option linter.unusedVariables false

/-- The next step, of a number that is not above. -/
def nx (d p r : Nat) : Nat := r + (p - d * r) * r / p

/-- How far the steps have come. -/
def gk (p : Nat) : Nat → Nat → Prop
  | 0, e => 4 * e ≤ 3 * p
  | 1, e => 32 * e < 19 * p
  | 2, e => 5 * e < 2 * p
  | k + 3, e => 2 * e * 2 ^ (2 ^ k) < p

theorem nx_ge (d p r : Nat) : r ≤ nx d p r := Nat.le_add_right _ _

/-- What is missing behind a step. -/
theorem nx_left {d p r : Nat} (hp : 0 < p) (h : d * r ≤ p) : ∃ ρ, ρ < p ∧ d * nx d p r ≤ p ∧ (p - d * nx d p r) * p = (p - d * r) * (p - d * r) + d * ρ := by
  obtain ⟨e, he⟩ : ∃ e, e = p - d * r := ⟨_, rfl⟩
  obtain ⟨t, ht⟩ : ∃ t, t = e * r / p := ⟨_, rfl⟩
  have hm := Nat.div_add_mod (e * r) p
  have hlt := Nat.mod_lt (e * r) hp
  unfold nx
  rw [← he, ← ht]
  rw [← ht] at hm
  obtain ⟨ρ, hρ⟩ : ∃ ρ, ρ = e * r % p := ⟨_, rfl⟩
  rw [← hρ] at hm hlt
  have h1 : d * (p * t) + d * ρ = e * (d * r) := by rw [← Nat.mul_add, hm, Nat.mul_left_comm]
  have h2 : e * (d * r) + e * e = e * p := by rw [← Nat.mul_add]; congr 1; omega
  have h3 : d * t * p = d * (p * t) := by rw [Nat.mul_assoc, Nat.mul_comm t p]
  have h4 : d * t ≤ e := by
    have h5 : d * t * p ≤ e * p := by omega
    exact Nat.le_of_mul_le_mul_right h5 hp
  refine ⟨ρ, hlt, by rw [Nat.mul_add]; omega, ?_⟩
  rw [show p - d * (r + t) = e - d * t by rw [Nat.mul_add]; omega, Nat.sub_mul]
  omega

theorem nx_le {d p r : Nat} (hd : 0 < d) (hp : 0 < p) (h : d * r ≤ p) : nx d p r ≤ p / d := by
  obtain ⟨ρ, -, h1, -⟩ := nx_left hp h
  rw [Nat.le_div_iff_mul_le hd, Nat.mul_comm]; exact h1

/-- Where a step stays the reciprocal is near. -/
theorem nx_stop {d p r : Nat} (hd : 0 < d) (hp : 0 < p) (hr : 2 ≤ r) (h : d * r ≤ p) (hs : nx d p r = r) : p / d ≤ r + 1 := by
  have h0 : (p - d * r) * r / p = 0 := by unfold nx at hs; omega
  have h1 : (p - d * r) * r < p := by
    rcases Nat.lt_or_ge ((p - d * r) * r) p with q | q
    · exact q
    · have := Nat.div_pos q hp; omega
  refine Nat.le_of_not_lt fun g => ?_
  have g2 : d * (r + 2) ≤ p := by
    rw [Nat.mul_comm]; exact (Nat.le_div_iff_mul_le hd).1 (by omega)
  obtain ⟨e, he⟩ : ∃ e, e = p - d * r := ⟨_, rfl⟩
  rw [← he] at h1
  have g3 : 2 * d ≤ e := by rw [Nat.mul_add] at g2; omega
  obtain ⟨q, rfl⟩ : ∃ q, r = q + 2 := ⟨r - 2, by omega⟩
  have g4 : d * (q + 2) = d * q + 2 * d := by rw [Nat.mul_add]; omega
  have g5 : e * (q + 2) = e * q + 2 * e := by rw [Nat.mul_add]; omega
  have g6 : d * q ≤ e * q := Nat.mul_le_mul_right _ (by omega)
  omega

theorem near_of {d p r : Nat} (hd : 0 < d) (h : d * r ≤ p) (he : p - d * r < 2 * d) : p / d ≤ r + 1 := by
  refine Nat.le_of_lt_succ ((Nat.div_lt_iff_lt_mul hd).2 ?_)
  rw [Nat.mul_comm, Nat.mul_succ, Nat.mul_succ]; omega

theorem gk_step {d p r k : Nat} (hd : 0 < d) (h32 : 32 * d ≤ p) (h : d * r ≤ p) (hg : gk p k (p - d * r)) : p / d ≤ nx d p r + 1 ∨ gk p (k + 1) (p - d * nx d p r) := by
  have hp : 0 < p := by omega
  obtain ⟨ρ, h1, h2, h3⟩ := nx_left hp h
  obtain ⟨e, he⟩ : ∃ e, e = p - d * r := ⟨_, rfl⟩
  obtain ⟨e', he'⟩ : ∃ e', e' = p - d * nx d p r := ⟨_, rfl⟩
  rw [← he] at hg h3
  rw [← he'] at h3 ⊢
  have h4 : d * ρ < d * p := Nat.mul_lt_mul_of_pos_left h1 hd
  have h5 : 32 * (d * p) ≤ p * p := by rw [← Nat.mul_assoc]; exact Nat.mul_le_mul_right _ h32
  have lt : ∀ {a b : Nat}, a * p < b * p → a < b := fun q => Nat.lt_of_mul_lt_mul_right q
  match k, hg with
  | 0, hg =>
    right
    have a1 : 4 * e * (4 * e) ≤ 3 * p * (3 * p) := Nat.mul_le_mul hg hg
    have a2 : 4 * e * (4 * e) = 16 * (e * e) := by rw [Nat.mul_mul_mul_comm]
    have a3 : 3 * p * (3 * p) = 9 * (p * p) := by rw [Nat.mul_mul_mul_comm]
    refine lt (a := 32 * e') (b := 19 * p) ?_
    rw [Nat.mul_assoc, Nat.mul_assoc, h3]; omega
  | 1, hg =>
    right
    have a1 : 32 * e * (32 * e) ≤ 19 * p * (19 * p) := Nat.mul_le_mul (Nat.le_of_lt hg) (Nat.le_of_lt hg)
    have a2 : 32 * e * (32 * e) = 1024 * (e * e) := by rw [Nat.mul_mul_mul_comm]
    have a3 : 19 * p * (19 * p) = 361 * (p * p) := by rw [Nat.mul_mul_mul_comm]
    refine lt (a := 5 * e') (b := 2 * p) ?_
    rw [Nat.mul_assoc, Nat.mul_assoc, h3]; omega
  | 2, hg =>
    right
    have a1 : 5 * e * (5 * e) ≤ 2 * p * (2 * p) := Nat.mul_le_mul (Nat.le_of_lt hg) (Nat.le_of_lt hg)
    have a2 : 5 * e * (5 * e) = 25 * (e * e) := by rw [Nat.mul_mul_mul_comm]
    have a3 : 2 * p * (2 * p) = 4 * (p * p) := by rw [Nat.mul_mul_mul_comm]
    show 2 * e' * 2 ^ (2 ^ 0) < p
    refine lt ?_
    rw [show 2 * e' * 2 ^ 2 ^ 0 * p = 4 * (e' * p) by rw [Nat.mul_comm (2 * e'), ← Nat.mul_assoc, Nat.mul_assoc], h3]; omega
  | j + 3, hg =>
    have hg : 2 * e * 2 ^ (2 ^ j) < p := hg
    rcases Nat.lt_or_ge (d * p) (e * e) with g | g
    · right
      show 2 * e' * 2 ^ (2 ^ (j + 1)) < p
      obtain ⟨w, hw⟩ : ∃ w, w = 2 ^ (2 ^ j) := ⟨_, rfl⟩
      have hw2 : 2 ^ (2 ^ (j + 1)) = w * w := by rw [Nat.pow_succ 2 j, Nat.pow_mul, hw, Nat.pow_two]
      have hw0 : 0 < w * w := by rw [← hw2]; exact Nat.two_pow_pos _
      rw [← hw] at hg
      rw [hw2]
      refine lt ?_
      have b1 : 2 * e * w * (2 * e * w) < p * p := Nat.mul_lt_mul'' hg hg
      have b2 : 2 * e * w * (2 * e * w) = 4 * (e * e) * (w * w) := by rw [Nat.mul_mul_mul_comm, Nat.mul_mul_mul_comm 2 e 2 e]
      have b3 : 2 * e' * (w * w) * p = 2 * (e' * p) * (w * w) := by rw [Nat.mul_right_comm, Nat.mul_assoc 2]
      have b4 : 2 * (e' * p) * (w * w) ≤ 4 * (e * e) * (w * w) := Nat.mul_le_mul_right _ (by omega)
      omega
    · left
      refine near_of hd h2 ?_
      rw [← he']
      refine lt ?_
      rw [h3, Nat.mul_assoc]; omega

/-- What holds behind k steps. -/
def far (d p k r : Nat) : Prop := 2 ≤ r ∧ d * r ≤ p ∧ ((p / d < 32 ∧ 2 + k ≤ r) ∨ (32 * d ≤ p ∧ (p / d ≤ r + 1 ∨ gk p k (p - d * r))))
theorem far_start {d p n : Nat} (hd : 0 < d) (h1 : 2 ^ (n + 2) ≤ p / d) (h2 : p / d < 2 ^ (n + 3)) : far d p 0 (2 ^ (n + 1)) := by
  have e2 : 2 ^ (n + 2) = 2 * 2 ^ (n + 1) := by rw [Nat.pow_succ 2 (n + 1)]; omega
  have e3 : 2 ^ (n + 3) = 4 * 2 ^ (n + 1) := by rw [Nat.pow_succ 2 (n + 2), e2]; omega
  have e1 : 2 ^ (n + 1) = 2 * 2 ^ n := by rw [Nat.pow_succ]; omega
  have h0 := Nat.two_pow_pos n
  have a1 := (Nat.le_div_iff_mul_le hd).1 h1
  have a2 := (Nat.div_lt_iff_lt_mul hd).1 h2
  obtain ⟨r, hr⟩ : ∃ r, r = 2 ^ (n + 1) := ⟨_, rfl⟩
  rw [e2, Nat.mul_assoc] at a1
  rw [e3, Nat.mul_assoc] at a2
  rw [← hr] at a1 a2 e1 ⊢
  rw [Nat.mul_comm r d] at a1 a2
  refine ⟨by omega, by omega, ?_⟩
  rcases Nat.lt_or_ge (p / d) 32 with q | q
  · exact .inl ⟨q, by omega⟩
  · exact .inr ⟨(Nat.le_div_iff_mul_le hd).1 q, .inr (show 4 * (p - d * r) ≤ 3 * p by omega)⟩
theorem far_step {d p k r : Nat} (hd : 0 < d) (h : far d p k r) (hs : nx d p r ≠ r) : far d p (k + 1) (nx d p r) := by
  obtain ⟨h1, h2, h3⟩ := h
  have hp : 0 < p := Nat.lt_of_lt_of_le (Nat.mul_pos hd (show 0 < r by omega)) h2
  have hge := nx_ge d p r
  obtain ⟨ρ, -, h4, -⟩ := nx_left hp h2
  refine ⟨by omega, h4, ?_⟩
  rcases h3 with ⟨a, b⟩ | ⟨a, b⟩
  · exact .inl ⟨a, by omega⟩
  · refine .inr ⟨a, ?_⟩
    rcases b with b | b
    · exact .inl (by omega)
    · exact gk_step hd a h2 b
theorem gk_end {b e j : Nat} (h : gk (2 ^ b) (j + 3) e) (hj : b ≤ 2 ^ j) : e = 0 := by
  have c : 2 * e * 2 ^ (2 ^ j) < 2 ^ b := h
  rcases Nat.eq_zero_or_pos e with q | q
  · exact q
  · exfalso
    have c2 : 2 ^ (2 ^ j) < 2 ^ b := Nat.lt_of_le_of_lt (Nat.le_mul_of_pos_left _ (by omega)) c
    have := (Nat.pow_lt_pow_iff_right (a := 2) (by decide)).1 c2
    omega
theorem far_end {d b r j : Nat} (hd : 0 < d) (hb : b ≤ 2 ^ j) (h29 : 29 ≤ j) (h : far d (2 ^ b) (j + 3) r) : 2 ^ b / d ≤ r + 1 := by
  obtain ⟨h1, h2, h3⟩ := h
  rcases h3 with ⟨a, c⟩ | ⟨a, c | c⟩
  · omega
  · exact c
  · have q := gk_end c hb
    exact near_of hd h2 (by omega)
end Go.Proofs

/-
  RecipComes.
-/
namespace Go.Proofs
open Go Go.Abs Go.Nums
attribute [local irreducible] thenA blockA awp aw Stp EndF EndP EndN EndG aOps
set_option linter.unusedSimpArgs false
set_option maxHeartbeats 4000000

theorem stepV_nx {D b R : Nat} (h : D * R ≤ 2 ^ b) : stepV D R b = ((nx D (2 ^ b) R : Nat) : Int) := by
  unfold stepV nx
  have e1 : ((2 : Int) ^ b - D * R) = ((2 ^ b - D * R : Nat) : Int) := by rw [Int.natCast_sub h]; simp
  rw [e1]
  simp [Int.add_comm]

theorem l_comes (s1 : Bool) (l1 : List Nat) (hr1 : rng B l1) (hl1 : l1.length < 2 ^ 63) (bits : Int) : AFun Try.prog 7 [wi s1 l1, ivl .i64 bits] (bvl true) := by
  have hpick := c_pick bits 1200 (by decide) (by decide)
  obtain ⟨b, hb, hb4⟩ : ∃ b : Nat, bits % ((1200 : Nat) : Int) = (b : Int) ∧ b ≤ 1199 := ⟨(bits % ((1200 : Nat) : Int)).toNat, by omega, by omega⟩
  rw [hb] at hpick
  have hab := c_above s1 l1 10 hr1 hl1 (by decide)
  obtain ⟨D, hD⟩ : ∃ D, D = atl (val B (l1.take 10)) := ⟨_, rfl⟩
  have hD0 : 0 < D := by rw [hD]; unfold atl; split <;> omega
  have hv1 : val B (l1.take 10) < B ^ 10 := Nat.lt_of_lt_of_le (val_lt (rng_take hr1 10)) (Nat.pow_le_pow_right (by decide) (by simp; omega))
  have hDl : (digs B D).length ≤ 10 := by
    rw [digs_len hB, hD]; unfold atl; split
    · decide
    · exact hv1
  rw [← hD] at hab
  clear hD
  have hp : (digs B (2 ^ b)).length ≤ 19 := by
    obtain ⟨k, hk⟩ : ∃ k, k = 19 := ⟨_, rfl⟩
    rw [← hk, digs_len hB, show B = 2 ^ 64 from rfl, ← Nat.pow_mul]; exact Nat.pow_lt_pow_right (by decide) (by omega)
  have hql : (digs B (2 ^ b / D)).length ≤ 19 := Nat.le_trans (len_mono hB (Nat.div_le_self _ _)) hp
  have hof := c_of1 D b hD0 (by omega) (by omega) (by omega)
  have hp0 : 0 < 2 ^ b := Nat.two_pow_pos b
  have hle : ∀ R, D * R ≤ 2 ^ b → R ≤ 2 ^ b / D := fun R h => by rw [Nat.le_div_iff_mul_le hD0, Nat.mul_comm]; exact h
  have hRl : ∀ R, D * R ≤ 2 ^ b → (digs B R).length ≤ 19 := fun R h => Nat.le_trans (len_mono hB (hle R h)) hql
  have hstep : ∀ R, D * R ≤ 2 ^ b → AFun Try.prog 11 [w1 D, w1 R, iv b] (.tup [w1 (nx D (2 ^ b) R), ivl .i64 0]) := fun R h => by
    obtain ⟨_, _, h2, _⟩ := nx_left hp0 h
    have h1 := hRl R h
    have h3 := hRl _ h2
    have e := stepV_nx h
    have hs := c_step1 D b (R : Int) hD0 (by omega) (by rw [Int.natAbs_natCast]; omega) (by omega) (by rw [e, Int.natAbs_natCast]; omega)
    rw [e, wz_nat, wz_nat] at hs; exact hs
  have hint : ∀ n, (digs B n).length ≤ 19 → AFun Try.prog 24 [wi false (digs B n)] (nu (nz n)) := fun n h => by
    have hi := c_numintZ n (by rw [Int.natAbs_natCast]; omega)
    rw [vz_n] at hi; exact hi
  have hok : ∀ n : Nat, (digs B n).length ≤ 19 → (nz n).ok 1216 := fun n h => nz_ok (Nat.le_trans (len_le_blen (n := (n : Int).natAbs) (k := 19) (by rw [Int.natAbs_natCast]; exact h)) (by omega))
  have hfs := @far_start D (2 ^ b)
  have hfe := @far_end D b
  have hft := @far_step D (2 ^ b)
  have hns := @nx_stop D (2 ^ b)
  have hnl : ∀ R, D * R ≤ 2 ^ b → D * nx D (2 ^ b) R ≤ 2 ^ b := fun R h => by
    obtain ⟨_, _, h2, _⟩ := nx_left hp0 h
    exact h2
  obtain ⟨q, hq⟩ : ∃ q : Nat, q = 2 ^ b / D := ⟨_, rfl⟩
  rw [← hq] at hql hof hfs hfe hle hns
  refine afun (mu := muF) Try.func7 rfl (by decide) rfl (by decide) (Nat.le_of_ble_eq_true rfl) (by simp [nm0, AVal.at, AVal.at1, Cell.at]) (by simp [nm0, AVal.at, AVal.at1, Cell.at]) fun S hS => ?_
  repeat refine gN ?_
  ((first | refine zw1 ?_ | refine zw2 ?_ | refine zw3 ?_); refine s_call (hab) ?_)
  repeat refine gN ?_
  ((first | refine zw1 ?_ | refine zw2 ?_ | refine zw3 ?_); refine s_call (hpick) ?_)
  repeat refine gN ?_
  ((first | refine zw1 ?_ | refine zw2 ?_ | refine zw3 ?_); refine s_call (hof) ?_)
  repeat refine gN ?_
  ((first | refine zw1 ?_ | refine zw2 ?_ | refine zw3 ?_); refine s_cmp (fun g1 => ?_) (fun g1 => ?_))
  · exact absurd rfl g1
  repeat refine gN ?_
  ((first | refine zw1 ?_ | refine zw2 ?_ | refine zw3 ?_); refine s_call (c_natbits q (by omega)) ?_)
  repeat refine gN ?_
  ((first | refine zw1 ?_ | refine zw2 ?_ | refine zw3 ?_); refine s_cmp (fun g2 => ?_) (fun g2 => ?_))
  · repeat refine gN ?_
    ((first | refine zw1 ?_ | refine zw2 ?_ | refine zw3 ?_); refine s_call (c_awake) ?_)
    repeat refine gN ?_
    (refine endF ttOk (.inr rfl) hS (by exact rfl) ?_ (fl' := [(4, bvl true)]) (by exact rfl) (by exact rfl) (by exact rfl); (repeat' (first | refine fF ?_ ?_ | refine fS ?_ ?_ | exact True.intro); all_goals (try (first | exact kv | (refine kW (ov_of lks) rfl ?_ ?_)))))
  have hn3 : 3 ≤ blen q := by omega
  obtain ⟨m, hm⟩ : ∃ m, blen q = m + 3 := ⟨blen q - 3, by omega⟩
  have hmb : blen q ≤ 1216 := Nat.le_trans (len_le_blen hql) (by omega)
  have hq0 : q ≠ 0 := fun z => by rw [z, blen0] at hn3; omega
  have hfar : far D (2 ^ b) 0 (2 ^ (m + 1)) := by
    refine hfs hD0 ?_ ?_
    · have := blen_ge hq0
      rw [hm] at this; exact this
    · have := blen_lt q
      rw [hm] at this; exact this
  repeat refine gN ?_
  ((first | refine zw1 ?_ | refine zw2 ?_ | refine zw3 ?_); refine s_call (c_numwhole1 1 (by decide)) ?_)
  repeat refine gN ?_
  rw [show (blen q : Int) - 2 = ((m + 1 : Nat) : Int) by omega]
  ((first | refine zw1 ?_ | refine zw2 ?_ | refine zw3 ?_); refine s_call (c_scaled ⟨false, 1, 0⟩ ((m + 1 : Nat) : Int) (show -9223372036854775808 ≤ (0 : Int) + ((m + 1 : Nat) : Int) ∧ (0 : Int) + ((m + 1 : Nat) : Int) < 9223372036854775808 by omega)) ?_)
  repeat refine gN ?_
  obtain ⟨x0, hx0⟩ : ∃ x : Nu, x = (Nu.mk false 1 0).scaled ((m + 1 : Nat) : Int) := ⟨_, rfl⟩
  have kx0 : x0.ok 1300 := by rw [hx0]; exact Nu.ok_mono (Nu.ok_scaled (K := 1) ⟨Int.le_refl _, by decide⟩ (m + 1)) (by omega)
  have vx0 : x0.val = ((2 ^ (m + 1) : Nat) : Int) := by rw [hx0, Nu.val_scaled (by decide)]; simp [Nu.val, sg]
  rw [← hx0]
  have ht := c_tellint1 x0 1300 kx0 (by decide) (.inr (by have := kx0.2; omega))
  rw [vx0, vz_n] at ht
  ((first | refine zw1 ?_ | refine zw2 ?_ | refine zw3 ?_); refine s_call (ht) ?_)
  obtain ⟨R0, hR0⟩ : ∃ r, r = 2 ^ (m + 1) := ⟨_, rfl⟩
  rw [← hR0] at hfar ⊢
  repeat refine gN ?_
  refine awp_midB (fun st => ∃ R, Weak st ⟨lk' [(6, .c (.ptr (.loc 6) 0)), (9, .c (.ptr (.loc 9) 0))], ov [(.loc 6, .cells 24 [.sc (.bool false), .ints .u64 (U (digs B q))]), (.loc 9, .cells 24 [.sc (.bool false), .ints .u64 (U (digs B R))])] (pushS S)⟩ ∧ D * R ≤ 2 ^ b ∧ q ≤ R + 1) ?_ ?_
  · refine awp_rep2 (fun (k R : Nat) => ⟨lk' [(1, iv b), (5, .c (.ptr (.loc 5) 0)), (6, .c (.ptr (.loc 6) 0)), (9, .c (.ptr (.loc 9) 0)), (11, iv k)],
        ov [(.loc 5, .cells 24 [.sc (.bool false), .ints .u64 (U (digs B D))]), (.loc 6, .cells 24 [.sc (.bool false), .ints .u64 (U (digs B q))]), (.loc 9, .cells 24 [.sc (.bool false), .ints .u64 (U (digs B R))])] (pushS S)⟩)
      (fun k R => k ≤ 40 ∧ far D (2 ^ b) k R) (fun k _ => 40 - k) 0 R0 ⟨by omega, hfar⟩ ?_ ?_
    · (refine frz hS (by exact rfl) ?_ ?_; all_goals (repeat' (first | refine fF ?_ ?_ | refine fS ?_ ?_ | exact True.intro)); all_goals (try (first | exact kv | (refine kW (ov_of lks) rfl ?_ ?_))))
    rintro k R ⟨hk, hf⟩
    obtain ⟨f1, f2, -⟩ := id hf
    have hs1 := hstep R f2
    have hge := nx_ge D (2 ^ b) R
    have hl2 := hnl R f2
    have hle2 := hle _ hl2
    obtain ⟨Z, hZ⟩ : ∃ z, z = nx D (2 ^ b) R := ⟨_, rfl⟩
    have hft1 := @hft k R hD0 hf
    have hns1 := @hns R hD0 hp0 f1 f2
    rw [← hZ] at hs1 hge hl2 hle2 hft1 hns1
    have lR := hRl R f2
    have lZ := hRl Z hl2
    have sZR := sign_cases ((nz Z).val - (nz R).val)
    have sZq := sign_cases ((nz Z).val - (nz q).val)
    rw [nz_val, nz_val] at sZR sZq
    repeat refine gN ?_
    ((first | refine zw1 ?_ | refine zw2 ?_ | refine zw3 ?_); refine s_cmp (fun g3 => ?_) (fun g3 => ?_))
    · repeat refine gN ?_
      ((first | refine zw1 ?_ | refine zw2 ?_ | refine zw3 ?_); refine s_call (hs1) ?_)
      repeat refine gN ?_
      ((first | refine zw1 ?_ | refine zw2 ?_ | refine zw3 ?_); refine s_cmp (fun g4 => ?_) (fun g4 => ?_))
      · exact absurd rfl g4
      repeat refine gN ?_
      ((first | refine zw1 ?_ | refine zw2 ?_ | refine zw3 ?_); refine s_call (hint Z lZ) ?_)
      repeat refine gN ?_
      ((first | refine zw1 ?_ | refine zw2 ?_ | refine zw3 ?_); refine s_call (hint R lR) ?_)
      repeat refine gN ?_
      ((first | refine zw1 ?_ | refine zw2 ?_ | refine zw3 ?_); refine s_call (c_numcompare (nz Z) (nz R) 1216 (hok Z lZ) (hok R lR) (by decide)) ?_)
      rw [nz_val, nz_val]
      repeat refine gN ?_
      ((first | refine zw1 ?_ | refine zw2 ?_ | refine zw3 ?_); refine s_cmp (fun g5 => ?_) (fun g5 => ?_))
      · omega
      repeat refine gN ?_
      ((first | refine zw1 ?_ | refine zw2 ?_ | refine zw3 ?_); refine s_call (hint Z lZ) ?_)
      repeat refine gN ?_
      ((first | refine zw1 ?_ | refine zw2 ?_ | refine zw3 ?_); refine s_call (hint q hql) ?_)
      repeat refine gN ?_
      ((first | refine zw1 ?_ | refine zw2 ?_ | refine zw3 ?_); refine s_call (c_numcompare (nz Z) (nz q) 1216 (hok Z lZ) (hok q hql) (by decide)) ?_)
      rw [nz_val, nz_val]
      repeat refine gN ?_
      ((first | refine zw1 ?_ | refine zw2 ?_ | refine zw3 ?_); refine s_cmp (fun g6 => ?_) (fun g6 => ?_))
      · omega
      repeat refine gN ?_
      ((first | refine zw1 ?_ | refine zw2 ?_ | refine zw3 ?_); refine s_call (c_sameint false false (digs B Z) (digs B R) (by omega) (by omega)) ?_)
      by_cases hZR : Z = R
      · rw [show decide (false = false ∧ digs B Z = digs B R) = true by rw [hZR]; simp]
        repeat refine gN ?_
        refine ⟨R, ?_, f2, hns1 hZR⟩
        (refine frz hS (by exact rfl) ?_ ?_; all_goals (repeat' (first | refine fF ?_ ?_ | refine fS ?_ ?_ | exact True.intro)); all_goals (try (first | exact kv | (refine kW (ov_of lks) rfl ?_ ?_))))
      · rw [show decide (false = false ∧ digs B Z = digs B R) = false from decide_eq_false fun h => hZR (digs_inj hB h.2)]
        repeat refine gN ?_
        refine ⟨k + 1, Z, ?_, ⟨by omega, hft1 hZR⟩, by omega⟩
        (refine frz hS (by exact rfl) ?_ ?_; all_goals (repeat' (first | refine fF ?_ ?_ | refine fS ?_ ?_ | exact True.intro)); all_goals (try (first | exact kv | (refine kW (ov_of lks) rfl ?_ ?_))))
    · repeat refine gN ?_
      have hk40 : k = 37 + 3 := by omega
      subst hk40
      refine ⟨R, ?_, f2, hfe (j := 37) hD0 (by omega) (by omega) hf⟩
      (refine frz hS (by exact rfl) ?_ ?_; all_goals (repeat' (first | refine fF ?_ ?_ | refine fS ?_ ?_ | exact True.intro)); all_goals (try (first | exact kv | (refine kW (ov_of lks) rfl ?_ ?_))))
  rintro st ⟨R, hw, f2, hqR⟩
  refine awp_weak _ hw ?_
  clear hw st
  have lR := hRl R f2
  have hRq := hle R f2
  have kl := Nu.ok_less (hok q hql) (hok R lR)
  have vl : ((nz q).less (nz R)).val = q - R := by rw [Nu.val_less (hok q hql).1 (hok R lR).1, nz_val, nz_val]
  have v1 : (Nu.mk false 1 0).val = 1 := by simp [Nu.val, sg]
  have sf := sign_cases (((nz q).less (nz R)).val - (Nu.mk false 1 0).val)
  rw [vl, v1] at sf
  repeat refine gN ?_
  ((first | refine zw1 ?_ | refine zw2 ?_ | refine zw3 ?_); refine s_call (hint q hql) ?_)
  repeat refine gN ?_
  ((first | refine zw1 ?_ | refine zw2 ?_ | refine zw3 ?_); refine s_call (hint R lR) ?_)
  repeat refine gN ?_
  ((first | refine zw1 ?_ | refine zw2 ?_ | refine zw3 ?_); refine s_call (c_numless (nz q) (nz R) 1216 (hok q hql) (hok R lR) (by decide)) ?_)
  repeat refine gN ?_
  ((first | refine zw1 ?_ | refine zw2 ?_ | refine zw3 ?_); refine s_call (c_numwhole1 1 (by decide)) ?_)
  repeat refine gN ?_
  ((first | refine zw1 ?_ | refine zw2 ?_ | refine zw3 ?_); refine s_call (c_numcompare ((nz q).less (nz R)) ⟨false, 1, 0⟩ 1217 kl ⟨Int.le_refl _, by decide⟩ (by decide)) ?_)
  rw [vl, v1]
  repeat refine gN ?_
  ((first | refine zw1 ?_ | refine zw2 ?_ | refine zw3 ?_); refine s_cmp (fun g7 => ?_) (fun g7 => ?_))
  · repeat refine gN ?_
    ((first | refine zw1 ?_ | refine zw2 ?_ | refine zw3 ?_); refine s_call (c_awake) ?_)
    repeat refine gN ?_
    (refine endF ttOk (.inr rfl) hS (by exact rfl) ?_ (fl' := [(4, bvl true)]) (by exact rfl) (by exact rfl) (by exact rfl); (repeat' (first | refine fF ?_ ?_ | refine fS ?_ ?_ | exact True.intro); all_goals (try (first | exact kv | (refine kW (ov_of lks) rfl ?_ ?_)))))
  · omega
end Go.Proofs

/-
  The reference: short, NatDown, Cut.
-/
namespace Go.Proofs
open Go Go.Abs Go.Nums
attribute [local irreducible] thenA blockA awp aw Stp EndF EndP EndN EndG aOps
set_option linter.unusedSimpArgs false
set_option maxHeartbeats 4000000

theorem c_short0 (l : List Nat) (hl : rng H l) (hs : l.length < 2 ^ 40) (d : Nat) (hd0 : 0 < d) (hd : d ≤ 4294967296) : AFun Try.prog 81 [us l, uv d] (.tup [us (digs H (val H l / d)), uv (val H l % d)]) := by
  refine afun (mu := muF) Try.func81 rfl (by decide) rfl (by decide) (Nat.le_of_ble_eq_true rfl) (by simp [nm0, AVal.at, AVal.at1, Cell.at]) (by simp [nm0, AVal.at, AVal.at1, Cell.at]) fun S hS => ?_
  obtain ⟨n, hn⟩ : ∃ n, n = l.length := ⟨_, rfl⟩
  repeat refine gN ?_
  refine awp_rep3 (fun (i : Nat) (o : List Nat) (r : Nat) => ⟨lk' [(0, us l), (1, uv d), (6, .c (.win (.loc 12) 0 n n)), (7, uv r), (8, ivl .i64 ((i : Int) - 1))], ov [(.loc 12, .ints 26 .u64 (U o))] (pushS S)⟩)
    (fun i o r => i ≤ n ∧ o.length = n ∧ rng H o ∧ r < d ∧ val H (l.drop i) = val H (o.drop i) * d + r) (fun i _ _ => i)
    n (List.replicate n 0) 0 ⟨Nat.le_refl _, by simp, rng_rep (by decide) _, hd0, by rw [List.drop_of_length_le (by omega), List.drop_of_length_le (by simp)]; simp [val]⟩ ?_ ?_
  · rw [show ((l.length : Nat) : Int).toNat = n by omega]
    (refine frz hS (by exact rfl) ?_ ?_; all_goals (repeat' (first | refine fF ?_ ?_ | refine fS ?_ ?_ | exact True.intro)); all_goals (try (first | exact kv | (refine kW (ov_of lks) rfl ?_ ?_))))
    exact kO (U_rep _ 0)
  rintro i o r ⟨h1, h2, h3, h4, h5⟩
  have hlo := U_len o
  repeat refine gN ?_
  ((first | refine zw1 ?_ | refine zw2 ?_ | refine zw3 ?_); refine s_cmp (fun h6 => ?_) (fun h6 => ?_))
  · obtain ⟨j, rfl⟩ : ∃ j, i = j + 1 := ⟨i - 1, by omega⟩
    rw [show ((j + 1 : Nat) : Int) - 1 = (j : Int) by omega]
    have hx : l.getD j 0 < 4294967296 := getD_lt (by decide) hl j
    obtain ⟨x, hxe⟩ : ∃ x, x = l.getD j 0 := ⟨_, rfl⟩
    rw [← hxe] at hx
    have hq : (r * 4294967296 + x) / d < 4294967296 := by
      rw [Nat.div_lt_iff_lt_mul hd0]
      have : (r + 1) * 4294967296 ≤ d * 4294967296 := Nat.mul_le_mul_right _ h4
      omega
    repeat refine gN ?_
    rw [← hxe]
    refine ⟨j, o.set j ((r * 4294967296 + x) / d), (r * 4294967296 + x) % d, ?_, ⟨by omega, by simpa using h2, rng_set h3 hq, Nat.mod_lt _ hd0, ?_⟩, by omega⟩
    · (refine frz hS (by exact rfl) ?_ ?_; all_goals (repeat' (first | refine fF ?_ ?_ | refine fS ?_ ?_ | exact True.intro)); all_goals (try (first | exact kv | (refine kW (ov_of lks) rfl ?_ ?_))))
    · rw [drop_set_at (by omega), drop_getD (l := l) (by omega), val_cons, val_cons, ← hxe]
      exact short_step H _ _ d r x _ _ h5 (Nat.div_add_mod' _ _)
  · repeat refine gN ?_
    have hi : i = 0 := by omega
    subst hi
    rw [List.drop_zero, List.drop_zero] at h5
    refine aw_weak ⟨lk' [(36, us o), (7, uv r)], ov [] (pushS S)⟩ ?_ ?_
    · (refine frz hS (by exact rfl) ?_ ?_; all_goals (repeat' (first | refine fF ?_ ?_ | refine fS ?_ ?_ | exact True.intro)); all_goals (try (first | exact kv | (refine kW (ov_of lks) rfl ?_ ?_))))
      · omega
      · rw [List.drop_zero, U_take, take_all (by omega)]
    ((first | refine zw1 ?_ | refine zw2 ?_ | refine zw3 ?_); refine s_call (c_low o h3 (by omega)) ?_)
    repeat refine gN ?_
    rw [show val H l / d = val H o by rw [h5, Nat.mul_comm, Nat.mul_add_div hd0, Nat.div_eq_of_lt h4, Nat.add_zero], show val H l % d = r by rw [h5, Nat.mul_comm, Nat.mul_add_mod, Nat.mod_eq_of_lt h4]]
    (refine endF ttOk (.inr rfl) hS (by exact rfl) ?_ (fl' := [(4, us (digs H (val H o))), (5, uv r)]) (by exact rfl) (by exact rfl) (by exact rfl); (repeat' (first | refine fF ?_ ?_ | refine fS ?_ ?_ | exact True.intro); all_goals (try (first | exact kv | (refine kW (ov_of lks) rfl ?_ ?_)))))

theorem c_natdown (a n : Nat) (ha : (digs B a).length < 2 ^ 38) (hn : n < 2 ^ 62) : AFun Try.prog 61 [us (digs B a), iv n] (.tup [us (digs B (a / 2 ^ n)), bvl (decide (a % 2 ^ n ≠ 0))]) := by
  refine afun (mu := muF) Try.func61 rfl (by decide) rfl (by decide) (Nat.le_of_ble_eq_true rfl) (by simp [nm0, AVal.at, AVal.at1, Cell.at]) (by simp [nm0, AVal.at, AVal.at1, Cell.at]) fun S hS => ?_
  repeat refine gN ?_
  ((first | refine zw1 ?_ | refine zw2 ?_ | refine zw3 ?_); refine s_call (c_halvesE a (by omega)) ?_)
  repeat refine gN ?_
  obtain ⟨z, hz⟩ : ∃ z, z = n / 32 := ⟨_, rfl⟩
  obtain ⟨s, hs⟩ : ∃ s, s = n % 32 := ⟨_, rfl⟩
  have hs32 : s < 32 := by omega
  have hla := digsH_lenE a
  refine awp_midB (fun st => ∃ lb : Bool, Weak st ⟨lk' [(1, iv n), (6, us (digs H a)), (7, bvl lb)], ov [] (pushS S)⟩ ∧ (lb = true ↔ val H ((digs H a).take z) ≠ 0)) ?_ ?_
  · refine awp_rep2 (fun (i : Nat) (lb : Bool) => ⟨lk' [(1, iv n), (6, us (digs H a)), (7, bvl lb), (8, iv i)], ov [] (pushS S)⟩)
      (fun i lb => i ≤ z ∧ (lb = true ↔ val H ((digs H a).take i) ≠ 0)) (fun i _ => z - i) 0 false ⟨Nat.zero_le _, by simp [val]⟩ ?_ ?_
    · (refine frz hS (by exact rfl) ?_ ?_; all_goals (repeat' (first | refine fF ?_ ?_ | refine fS ?_ ?_ | exact True.intro)); all_goals (try (first | exact kv | (refine kW (ov_of lks) rfl ?_ ?_))))
    rintro i lb ⟨h1, h2⟩
    have hta := val_take_succ H (digs H a) i
    have hp0 : 0 < H ^ i := Nat.pow_pos (by decide)
    repeat refine gN ?_
    rw [← hz]
    ((first | refine zw1 ?_ | refine zw2 ?_ | refine zw3 ?_); refine s_cmp (fun g1 => ?_) (fun g1 => ?_))
    · repeat refine gN ?_
      ((first | refine zw1 ?_ | refine zw2 ?_ | refine zw3 ?_); refine s_cmp (fun g2 => ?_) (fun g2 => ?_))
      · repeat refine gN ?_
        cases lb with
        | true =>
          repeat refine gN ?_
          refine ⟨i + 1, true, ?_, ⟨by omega, ?_⟩, by omega⟩
          · (refine frz hS (by exact rfl) ?_ ?_; all_goals (repeat' (first | refine fF ?_ ?_ | refine fS ?_ ?_ | exact True.intro)); all_goals (try (first | exact kv | (refine kW (ov_of lks) rfl ?_ ?_))))
          · have := h2.1 rfl
            rw [hta]; simp only [true_iff]; omega
        | false =>
          have h0 : val H ((digs H a).take i) = 0 := by
            refine Decidable.byContradiction fun q => ?_
            have := h2.2 q; cases this
          rw [h0, Nat.zero_add] at hta
          repeat refine gN ?_
          ((first | refine zw1 ?_ | refine zw2 ?_ | refine zw3 ?_); refine s_cmp (fun g3 => ?_) (fun g3 => ?_))
          · repeat refine gN ?_
            refine ⟨i + 1, true, ?_, ⟨by omega, ?_⟩, by omega⟩
            · (refine frz hS (by exact rfl) ?_ ?_; all_goals (repeat' (first | refine fF ?_ ?_ | refine fS ?_ ?_ | exact True.intro)); all_goals (try (first | exact kv | (refine kW (ov_of lks) rfl ?_ ?_))))
            · rw [hta]; simp only [true_iff]
              exact Nat.mul_ne_zero (by omega) (by omega)
          · repeat refine gN ?_
            refine ⟨i + 1, false, ?_, ⟨by omega, ?_⟩, by omega⟩
            · (refine frz hS (by exact rfl) ?_ ?_; all_goals (repeat' (first | refine fF ?_ ?_ | refine fS ?_ ?_ | exact True.intro)); all_goals (try (first | exact kv | (refine kW (ov_of lks) rfl ?_ ?_))))
            · rw [hta, show (digs H a).getD i 0 = 0 by omega]; simp
      · repeat refine gN ?_
        refine ⟨lb, ?_, ?_⟩
        · (refine frz hS (by exact rfl) ?_ ?_; all_goals (repeat' (first | refine fF ?_ ?_ | refine fS ?_ ?_ | exact True.intro)); all_goals (try (first | exact kv | (refine kW (ov_of lks) rfl ?_ ?_))))
        · rw [take_all (show (digs H a).length ≤ z by omega)]
          rw [take_all (show (digs H a).length ≤ i by omega)] at h2
          exact h2
    · repeat refine gN ?_
      have : i = z := by omega
      subst this
      refine ⟨lb, ?_, h2⟩
      (refine frz hS (by exact rfl) ?_ ?_; all_goals (repeat' (first | refine fF ?_ ?_ | refine fS ?_ ?_ | exact True.intro)); all_goals (try (first | exact kv | (refine kW (ov_of lks) rfl ?_ ?_))))
  rintro st ⟨lb, hw, hlb⟩
  refine awp_weak _ hw ?_
  clear hw st
  obtain ⟨p, hp⟩ : ∃ p, p = 2 ^ s := ⟨_, rfl⟩
  have hp31 : p ≤ 2147483648 := by rw [hp]; exact Nat.pow_le_pow_right (n := 2) (by decide) (show s ≤ 31 by omega)
  have hp0 : 0 < p := by rw [hp]; exact Nat.two_pow_pos _
  have hHz : 2 ^ n = H ^ z * p := by rw [hp, show H = 2 ^ 32 from rfl, ← Nat.pow_mul, ← Nat.pow_add]; congr 1; omega
  repeat refine gN ?_
  rw [← hz]
  ((first | refine zw1 ?_ | refine zw2 ?_ | refine zw3 ?_); refine s_cmp (fun g1 => ?_) (fun g1 => ?_))
  · repeat refine gN ?_
    have e1 : val H ((digs H a).take z) = a := by rw [take_all (by omega), val_digs hH]
    have hlt : a < 2 ^ n := by
      rw [hHz]
      have : a < H ^ z := Nat.lt_of_lt_of_le (digs_lt hH a) (Nat.pow_le_pow_right (by decide) (by omega))
      exact Nat.lt_of_lt_of_le this (Nat.le_mul_of_pos_right _ hp0)
    rw [e1] at hlb
    rw [Nat.div_eq_of_lt hlt, Nat.mod_eq_of_lt hlt, digs_zero, show decide (a ≠ 0) = lb by cases lb <;> simp at hlb ⊢ <;> omega]
    (refine endF ttOk (.inr rfl) hS (by exact rfl) ?_ (fl' := [(4, us []), (5, bvl lb)]) (by exact rfl) (by exact rfl) (by exact rfl); (repeat' (first | refine fF ?_ ?_ | refine fS ?_ ?_ | exact True.intro); all_goals (try (first | exact kv | (refine kW (ov_of lks) rfl ?_ ?_)))))
  have hzl : z ≤ (digs H a).length := by omega
  have hv := val_split H hzl
  rw [val_digs hH] at hv
  have htl := val_take_lt (rng_digs hH a) hzl
  obtain ⟨T, hT⟩ : ∃ t, t = val H ((digs H a).take z) := ⟨_, rfl⟩
  obtain ⟨V, hV⟩ : ∃ v, v = val H ((digs H a).drop z) := ⟨_, rfl⟩
  rw [← hT] at hv htl hlb
  rw [← hV] at hv
  have hHz0 : 0 < H ^ z := Nat.pow_pos (by decide)
  have ediv : a / 2 ^ n = V / p := by
    rw [hHz, ← Nat.div_div_eq_div_mul, hv, Nat.add_mul_div_left _ _ hHz0, Nat.div_eq_of_lt htl, Nat.zero_add]
  have emod : a % 2 ^ n = T + H ^ z * (V % p) := by
    rw [hHz, Nat.mod_mul, hv, Nat.add_mul_mod_self_left, Nat.mod_eq_of_lt htl, Nat.add_mul_div_left _ _ hHz0, Nat.div_eq_of_lt htl, Nat.zero_add]
  repeat refine gN ?_
  refine awp_midB (fun st => Weak st ⟨lk' [(1, iv n), (6, us (digs H a)), (7, bvl lb), (9, uv p)], ov [] (pushS S)⟩) ?_ ?_
  · refine awp_rep (ι := Nat) (fun j => ⟨lk' [(1, iv n), (6, us (digs H a)), (7, bvl lb), (9, uv (2 ^ j)), (10, iv j)], ov [] (pushS S)⟩) (fun j => j ≤ s) (fun j => s - j) 0 (Nat.zero_le _) ?_ ?_
    · (refine frz hS (by exact rfl) ?_ ?_; all_goals (repeat' (first | refine fF ?_ ?_ | refine fS ?_ ?_ | exact True.intro)); all_goals (try (first | exact kv | (refine kW (ov_of lks) rfl ?_ ?_))))
    intro j hj
    have h31 : 2 ^ j ≤ 2147483648 := Nat.pow_le_pow_right (n := 2) (by decide) (show j ≤ 31 by omega)
    repeat refine gN ?_
    ((first | refine zw1 ?_ | refine zw2 ?_ | refine zw3 ?_); refine s_cmp (fun g3 => ?_) (fun g3 => ?_))
    · repeat refine gN ?_
      refine ⟨j + 1, ?_, by omega, by omega⟩
      (refine frz hS (by exact rfl) ?_ ?_; all_goals (repeat' (first | refine fF ?_ ?_ | refine fS ?_ ?_ | exact True.intro)); all_goals (try (first | exact kv | (refine kW (ov_of lks) rfl ?_ ?_))))
    · repeat refine gN ?_
      have : j = s := by omega
      subst this
      rw [← hp]
      (refine frz hS (by exact rfl) ?_ ?_; all_goals (repeat' (first | refine fF ?_ ?_ | refine fS ?_ ?_ | exact True.intro)); all_goals (try (first | exact kv | (refine kW (ov_of lks) rfl ?_ ?_))))
  intro st hst
  refine awp_weak _ hst ?_
  clear hst st
  have hUa := U_len (digs H a)
  repeat refine gN ?_
  have esl : List.take ((U (digs H a)).length - ((n / 32 : Nat) : Int).toNat) (List.drop ((n / 32 : Nat) : Int).toNat (U (digs H a))) = U ((digs H a).drop z) := by
    rw [show ((n / 32 : Nat) : Int).toNat = z by omega, U_drop, U_take, take_all (by rw [List.length_drop, U_len]; exact Nat.le_refl _)]
  rw [esl]
  ((first | refine zw1 ?_ | refine zw2 ?_ | refine zw3 ?_); refine s_call (c_short0 ((digs H a).drop z) (rng_drop (rng_digs hH a) z) (by rw [List.length_drop]; omega) p hp0 (by omega)) ?_)
  rw [← hV]
  repeat refine gN ?_
  have hVa : V ≤ a := by rw [hv]; exact Nat.le_trans (Nat.le_mul_of_pos_left V hHz0) (Nat.le_add_left _ _)
  have hll : (digs H (V / p)).length ≤ (digs H a).length := len_mono hH (Nat.le_trans (Nat.div_le_self _ _) hVa)
  ((first | refine zw1 ?_ | refine zw2 ?_ | refine zw3 ?_); refine s_call (c_limbs0 (digs H (V / p)) (rng_digs hH _) (by omega)) ?_)
  rw [val_digs hH, ediv, emod]
  cases lb with
  | true =>
    have hT0 := hlb.1 rfl
    rw [show decide (T + H ^ z * (V % p) ≠ 0) = true from decide_eq_true (by omega)]
    repeat refine gN ?_
    (refine endF ttOk (.inr rfl) hS (by exact rfl) ?_ (fl' := [(4, us (digs B (V / p))), (5, bvl true)]) (by exact rfl) (by exact rfl) (by exact rfl); (repeat' (first | refine fF ?_ ?_ | refine fS ?_ ?_ | exact True.intro); all_goals (try (first | exact kv | (refine kW (ov_of lks) rfl ?_ ?_)))))
  | false =>
    have hT0 : T = 0 := by
      refine Decidable.byContradiction fun q => ?_
      have := hlb.2 q; cases this
    repeat refine gN ?_
    ((first | refine zw1 ?_ | refine zw2 ?_ | refine zw3 ?_); refine s_cmp (fun g4 => ?_) (fun g4 => ?_))
    · rw [show decide (T + H ^ z * (V % p) ≠ 0) = true from decide_eq_true (by
        have : H ^ z * (V % p) ≠ 0 := Nat.mul_ne_zero (by omega) (by omega)
        omega)]
      repeat refine gN ?_
      (refine endF ttOk (.inr rfl) hS (by exact rfl) ?_ (fl' := [(4, us (digs B (V / p))), (5, bvl true)]) (by exact rfl) (by exact rfl) (by exact rfl); (repeat' (first | refine fF ?_ ?_ | refine fS ?_ ?_ | exact True.intro); all_goals (try (first | exact kv | (refine kW (ov_of lks) rfl ?_ ?_)))))
    · rw [show decide (T + H ^ z * (V % p) ≠ 0) = false from decide_eq_false (by rw [show V % p = 0 by omega, hT0]; simp)]
      repeat refine gN ?_
      (refine endF ttOk (.inr rfl) hS (by exact rfl) ?_ (fl' := [(4, us (digs B (V / p))), (5, bvl false)]) (by exact rfl) (by exact rfl) (by exact rfl); (repeat' (first | refine fF ?_ ?_ | refine fS ?_ ?_ | exact True.intro); all_goals (try (first | exact kv | (refine kW (ov_of lks) rfl ?_ ?_)))))

namespace Nu
def cut (x : Nu) : Nu :=
  if x.n = 0 then ⟨false, 0, 0⟩ else if 0 ≤ x.e then x
  else if x.n % 2 ^ (-x.e).toNat ≠ 0 ∧ x.s = true then ⟨x.s, x.n / 2 ^ (-x.e).toNat + 1, 0⟩ else ⟨x.s, x.n / 2 ^ (-x.e).toNat, 0⟩
theorem cut_mk (s : Bool) (n : Nat) (e : Int) : Nu.cut ⟨s, n, e⟩ = if n = 0 then ⟨false, 0, 0⟩ else if 0 ≤ e then ⟨s, n, e⟩
  else if n % 2 ^ (-e).toNat ≠ 0 ∧ s = true then ⟨s, n / 2 ^ (-e).toNat + 1, 0⟩ else ⟨s, n / 2 ^ (-e).toNat, 0⟩ := rfl
theorem cut_e (x : Nu) : 0 ≤ x.cut.e := by
  unfold cut
  split
  · exact Int.le_refl _
  · split
    · assumption
    · split <;> exact Int.le_refl _
theorem cut_ok {x : Nu} {K : Nat} (h : (blen x.n : Int) + x.e ≤ K) (h2 : blen x.n ≤ K) : x.cut.ok (K + 1) := by
  refine ⟨cut_e x, ?_⟩
  unfold cut
  split
  · show (blen 0 : Int) + 0 ≤ _; rw [blen0]; omega
  · split
    · omega
    · have h3 := blen_mono (Nat.div_le_self x.n (2 ^ (-x.e).toNat))
      have h4 := blen_add (x.n / 2 ^ (-x.e).toNat) 1
      have h5 : blen 1 = 1 := by decide
      split
      · show (blen (x.n / 2 ^ (-x.e).toNat + 1) : Int) + 0 ≤ _
        have h6 := blen_pos (a := x.n) (by assumption)
        omega
      · show (blen (x.n / 2 ^ (-x.e).toNat) : Int) + 0 ≤ _
        omega
theorem cut_val {z : Nu} (hz : 0 ≤ z.e) (k : Nat) : (z.scaled (-(k : Int))).cut.val = z.val / 2 ^ k := by
  have hk0 : (0 : Int) < 2 ^ k := Int.pow_pos (by decide)
  obtain ⟨s, n, e⟩ := z
  obtain ⟨e, rfl⟩ : ∃ e' : Nat, e = (e' : Int) := ⟨e.toNat, by simp only at hz; omega⟩
  show (Nu.cut ⟨s, n, (e : Int) + -(k : Int)⟩).val = _
  rw [cut_mk]
  by_cases h : n = 0
  · rw [if_pos h, val_zero rfl, val_zero (show (Nu.mk s n e).n = 0 from h)]; simp
  · rw [if_neg h]
    by_cases h2 : 0 ≤ (e : Int) + -(k : Int)
    · rw [if_pos h2]
      obtain ⟨j, hj⟩ : ∃ j : Nat, e = j + k := ⟨e - k, by omega⟩
      simp only [val]
      rw [show ((e : Int) + -(k : Int)).toNat = j by omega, show ((e : Int)).toNat = e by omega, hj, Int.pow_add, ← Int.mul_assoc, Int.mul_ediv_cancel _ (by omega)]
    · rw [if_neg h2]
      obtain ⟨j, hj⟩ : ∃ j : Nat, k = j + e := ⟨k - e, by omega⟩
      have hj2 : (-((e : Int) + -(k : Int))).toNat = j := by omega
      have he0 : (0 : Int) < 2 ^ e := Int.pow_pos (by decide)
      have hv : (Nu.mk s n e).val / 2 ^ k = sg s n / 2 ^ j := by
        simp only [val]
        rw [show ((e : Int)).toNat = e by omega, hj, Int.pow_add, Int.mul_ediv_mul_of_pos_left _ _ he0]
      rw [hv, hj2]
      cases s with
      | false =>
        rw [if_neg (by simp)]
        simp only [val]
        rw [show ((0 : Int)).toNat = 0 from rfl, Int.pow_zero, Int.mul_one]
        show ((n / 2 ^ j : Nat) : Int) = (n : Int) / 2 ^ j
        exact (shr_pos n j).symm
      | true =>
        by_cases h3 : n % 2 ^ j ≠ 0
        · rw [if_pos ⟨h3, rfl⟩]
          simp only [val]
          rw [show ((0 : Int)).toNat = 0 from rfl, Int.pow_zero, Int.mul_one]
          exact (shr_neg n j h3).symm
        · rw [if_neg (fun h => h3 h.1)]
          simp only [val]
          rw [show ((0 : Int)).toNat = 0 from rfl, Int.pow_zero, Int.mul_one]
          exact (shr_neg0 n j (by omega)).symm
end Nu

theorem c_cut (x : Nu) (K : Nat) (h1 : blen x.n ≤ K) (h2 : -(K : Int) ≤ x.e ∧ x.e ≤ K) (hK : K ≤ 2 ^ 36) : AFun Try.prog 30 [nu x, ivl .i64 0, bvl false] (nu x.cut) := by
  have hl := len_blen' x.n
  by_cases g1 : x.n = 0
  · rw [show x.cut = ⟨false, 0, 0⟩ by rw [Nu.cut, if_pos g1], show nu ⟨false, 0, 0⟩ = .agg [.sc (.bool false), .ints .u64 [], .sc (.int .i64 0)] by simp only [nu, digs_zero]; rfl]
    refine afun (mu := muF) Try.func30 rfl (by decide) rfl (by decide) (Nat.le_of_ble_eq_true rfl) (by simp [nm0, AVal.at, AVal.at1, Cell.at]) (by simp [nm0, AVal.at, AVal.at1, Cell.at]) fun S hS => ?_
    repeat refine gN ?_
    ((first | refine zw1 ?_ | refine zw2 ?_ | refine zw3 ?_); refine s_call (c_numzero1 x (by omega) g1) ?_)
    repeat refine gN ?_
    (refine endF ttOk (.inr rfl) hS (by exact rfl) ?_ (fl' := [(6, .c (.pim [.sc (.bool false), .ints .u64 [], .sc (.int .i64 0)]))]) (by exact rfl) (by exact rfl) (by exact rfl); (repeat' (first | refine fF ?_ ?_ | refine fS ?_ ?_ | exact True.intro); all_goals (try (first | exact kv | (refine kW (ov_of lks) rfl ?_ ?_)))))
  by_cases g2 : 0 ≤ x.e
  · rw [show x.cut = x by rw [Nu.cut, if_neg g1, if_pos g2]]
    refine afun (mu := muF) Try.func30 rfl (by decide) rfl (by decide) (Nat.le_of_ble_eq_true rfl) (by simp [nm0, AVal.at, AVal.at1, Cell.at]) (by simp [nm0, AVal.at, AVal.at1, Cell.at]) fun S hS => ?_
    repeat refine gN ?_
    ((first | refine zw1 ?_ | refine zw2 ?_ | refine zw3 ?_); refine s_call (c_numzero2 x (by omega) g1) ?_)
    repeat refine gN ?_
    ((first | refine zw1 ?_ | refine zw2 ?_ | refine zw3 ?_); refine s_cmp (fun g3 => ?_) (fun g3 => ?_))
    · repeat refine gN ?_
      (refine endF ttOk (.inr rfl) hS (by exact rfl) ?_ (fl' := [(6, np x)]) (by exact rfl) (by exact rfl) (by exact rfl); (repeat' (first | refine fF ?_ ?_ | refine fS ?_ ?_ | exact True.intro); all_goals (try (first | exact kv | (refine kW (ov_of lks) rfl ?_ ?_)))))
    · omega
  obtain ⟨s, n, e⟩ := x
  simp only at g1 g2 h1 h2 hl
  obtain ⟨k, rfl⟩ : ∃ k : Nat, e = -(k : Int) := ⟨(-e).toNat, by omega⟩
  have ek : (- -(k : Int)).toNat = k := by omega
  have ec : Nu.cut ⟨s, n, -(k : Int)⟩ = if n % 2 ^ k ≠ 0 ∧ s = true then ⟨s, n / 2 ^ k + 1, 0⟩ else ⟨s, n / 2 ^ k, 0⟩ := by
    unfold Nu.cut
    simp only
    rw [if_neg g1, if_neg g2, ek]
  rw [ec]
  have hd := len_mono hB (Nat.div_le_self n (2 ^ k))
  refine afun (mu := muF) Try.func30 rfl (by decide) rfl (by decide) (Nat.le_of_ble_eq_true rfl) (by simp [nm0, AVal.at, AVal.at1, Cell.at]) (by simp [nm0, AVal.at, AVal.at1, Cell.at]) fun S hS => ?_
  repeat refine gN ?_
  ((first | refine zw1 ?_ | refine zw2 ?_ | refine zw3 ?_); refine s_call (c_numzero2 ⟨s, n, -(k : Int)⟩ (show (digs B n).length < 2 ^ 42 by omega) g1) ?_)
  repeat refine gN ?_
  ((first | refine zw1 ?_ | refine zw2 ?_ | refine zw3 ?_); refine s_cmp (fun g3 => ?_) (fun g3 => ?_))
  · exact absurd g3 g2
  repeat refine gN ?_
  rw [show (0 : Int) - -(k : Int) = (k : Int) by omega]
  ((first | refine zw1 ?_ | refine zw2 ?_ | refine zw3 ?_); refine s_call (c_natdown n k (by omega) (by omega)) ?_)
  by_cases g4 : n % 2 ^ k ≠ 0
  · rw [decide_eq_true g4]
    cases s with
    | true =>
      rw [if_pos ⟨g4, rfl⟩]
      repeat refine gN ?_
      ((first | refine zw1 ?_ | refine zw2 ?_ | refine zw3 ?_); refine s_call (c_natof 1 (by decide)) ?_)
      repeat refine gN ?_
      ((first | refine zw1 ?_ | refine zw2 ?_ | refine zw3 ?_); refine s_call (c_natadd (n / 2 ^ k) 1 (by omega) (by rw [digs_one]; decide)) ?_)
      repeat refine gN ?_
      (refine endF ttOk (.inr rfl) hS (by exact rfl) ?_ (fl' := [(6, np ⟨true, n / 2 ^ k + 1, 0⟩)]) (by exact rfl) (by exact rfl) (by exact rfl); (repeat' (first | refine fF ?_ ?_ | refine fS ?_ ?_ | exact True.intro); all_goals (try (first | exact kv | (refine kW (ov_of lks) rfl ?_ ?_)))))
    | false =>
      rw [if_neg (by simp)]
      repeat refine gN ?_
      (refine endF ttOk (.inr rfl) hS (by exact rfl) ?_ (fl' := [(6, np ⟨false, n / 2 ^ k, 0⟩)]) (by exact rfl) (by exact rfl) (by exact rfl); (repeat' (first | refine fF ?_ ?_ | refine fS ?_ ?_ | exact True.intro); all_goals (try (first | exact kv | (refine kW (ov_of lks) rfl ?_ ?_)))))
  · rw [decide_eq_false g4, if_neg (fun h => g4 h.1)]
    repeat refine gN ?_
    (refine endF ttOk (.inr rfl) hS (by exact rfl) ?_ (fl' := [(6, np ⟨s, n / 2 ^ k, 0⟩)]) (by exact rfl) (by exact rfl) (by exact rfl); (repeat' (first | refine fF ?_ ?_ | refine fS ?_ ?_ | exact True.intro); all_goals (try (first | exact kv | (refine kW (ov_of lks) rfl ?_ ?_)))))
end Go.Proofs
