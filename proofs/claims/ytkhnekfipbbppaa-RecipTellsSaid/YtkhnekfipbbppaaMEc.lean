/-
  An abstract machine for this program, contracts of its functions: part MEc (no statement by itself).
-/
import Derived.Test.YtkhnekfipbbppaaMEb
set_option linter.unusedVariables false
set_option linter.unusedSimpArgs false

/-
  Exact numbers: a sign, a size, a power of two. What they are worth.
-/
namespace Go.Proofs
open Go Go.Abs Go.Nums
set_option linter.unusedSimpArgs false
set_option linter.unusedVariables false

structure Nu where
  s : Bool
  n : Nat
  e : Int

namespace Nu
def val (x : Nu) : Int := sg x.s x.n * 2 ^ x.e.toNat
def ok (x : Nu) (K : Nat) : Prop := 0 ≤ x.e ∧ (blen x.n : Int) + x.e ≤ K
def minus (x : Nu) : Nu := ⟨!x.s, x.n, x.e⟩
def scaled (x : Nu) (k : Int) : Nu := ⟨x.s, x.n, x.e + k⟩
def times (x y : Nu) : Nu := ⟨x.s != y.s, x.n * y.n, x.e + y.e⟩
def plus0 (x y : Nu) : Nu :=
  if x.s = y.s then ⟨x.s, x.n + y.n * 2 ^ (y.e - x.e).toNat, x.e⟩
  else if y.n * 2 ^ (y.e - x.e).toNat ≤ x.n then ⟨x.s, x.n - y.n * 2 ^ (y.e - x.e).toNat, x.e⟩ else ⟨y.s, y.n * 2 ^ (y.e - x.e).toNat - x.n, x.e⟩
def plus (x y : Nu) : Nu := if x.n = 0 then y else if y.n = 0 then x else if y.e < x.e then plus0 y x else plus0 x y
def less (x y : Nu) : Nu := plus x (minus y)
end Nu

theorem blen_mono {a b : Nat} (h : a ≤ b) : blen a ≤ blen b := (blen_le _ _).2 (Nat.lt_of_le_of_lt h ((blen_le _ _).1 (Nat.le_refl _)))
theorem blen_lt (a : Nat) : a < 2 ^ blen a := (blen_le _ _).1 (Nat.le_refl _)
theorem blen_add (a b : Nat) : blen (a + b) ≤ max (blen a) (blen b) + 1 := by
  rw [blen_le, Nat.pow_succ]
  have h1 := Nat.lt_of_lt_of_le (blen_lt a) (Nat.pow_le_pow_right (n := 2) (by decide) (Nat.le_max_left (blen a) (blen b)))
  have h2 := Nat.lt_of_lt_of_le (blen_lt b) (Nat.pow_le_pow_right (n := 2) (by decide) (Nat.le_max_right (blen a) (blen b)))
  omega
theorem blen_mul (a b : Nat) : blen (a * b) ≤ blen a + blen b := by
  rw [blen_le, Nat.pow_add]
  exact Nat.mul_lt_mul'' (blen_lt a) (blen_lt b)
theorem blen_pos {a : Nat} (h : a ≠ 0) : 0 < blen a := by
  rcases Nat.eq_zero_or_pos (blen a) with q | q
  · have := blen_lt a; rw [q] at this; simp at this; omega
  · exact q
theorem blen_ge {a : Nat} (h : a ≠ 0) : 2 ^ (blen a - 1) ≤ a := by
  have h0 := blen_pos h
  refine Nat.le_of_not_lt fun q => ?_
  have := (blen_le a (blen a - 1)).2 q
  omega
theorem blen_shl (a k : Nat) : blen (a * 2 ^ k) ≤ blen a + k := by
  rw [blen_le, Nat.pow_add]
  exact Nat.mul_lt_mul_of_pos_right (blen_lt a) (Nat.two_pow_pos k)
theorem blen_shl' {a : Nat} (h : a ≠ 0) (k : Nat) : blen (a * 2 ^ k) = blen a + k := by
  refine Nat.le_antisymm (blen_shl a k) ?_
  have h0 := blen_pos h
  refine Nat.le_of_not_lt fun q => ?_
  have h1 := (blen_le (a * 2 ^ k) (blen a + k - 1)).1 (by omega)
  have h2 : 2 ^ (blen a + k - 1) ≤ a * 2 ^ k := by
    rw [show blen a + k - 1 = (blen a - 1) + k by omega, Nat.pow_add]
    exact Nat.mul_le_mul_right _ (blen_ge h)
  omega
/-- As many limbs as bits, at most. -/
theorem len_blen (a : Nat) : 64 * (digs B a).length ≤ blen a + 63 := by
  rcases Nat.eq_zero_or_pos (digs B a).length with q | q
  · omega
  · have h : ¬ (digs B a).length ≤ (digs B a).length - 1 := by omega
    rw [digs_len hB, show B = 2 ^ 64 from rfl, ← Nat.pow_mul] at h
    have := mt (blen_le a (64 * ((digs (2 ^ 64) a).length - 1))).1 h
    have e : (digs (2 ^ 64) a).length = (digs B a).length := rfl
    omega
theorem len_blen' (a : Nat) : (digs B a).length ≤ blen a := by
  have h1 := len_blen a
  rcases Nat.eq_zero_or_pos a with q | q
  · subst q; rw [digs_zero]; simp
  · have := blen_pos (a := a) (by omega)
    omega

namespace Nu
theorem ok_minus {x : Nu} {K : Nat} (h : x.ok K) : x.minus.ok K := h
theorem ok_scaled {x : Nu} {K : Nat} (h : x.ok K) (k : Nat) : (x.scaled k).ok (K + k) := by
  obtain ⟨h1, h2⟩ := h
  refine ⟨show 0 ≤ x.e + k by omega, show (blen x.n : Int) + (x.e + k) ≤ ((K + k : Nat) : Int) by omega⟩
theorem ok_times {x y : Nu} {K L : Nat} (h : x.ok K) (g : y.ok L) : (x.times y).ok (K + L) := by
  obtain ⟨h1, h2⟩ := h
  obtain ⟨g1, g2⟩ := g
  have := blen_mul x.n y.n
  exact ⟨show 0 ≤ x.e + y.e by omega, show (blen (x.n * y.n) : Int) + (x.e + y.e) ≤ ((K + L : Nat) : Int) by omega⟩
theorem ok_mono {x : Nu} {K L : Nat} (h : x.ok K) (hl : K ≤ L) : x.ok L := ⟨h.1, by have := h.2; omega⟩
theorem ok_plus0 {x y : Nu} {K : Nat} (h : x.ok K) (g : y.ok K) (he : x.e ≤ y.e) : (plus0 x y).ok (K + 1) := by
  obtain ⟨h1, h2⟩ := h
  obtain ⟨g1, g2⟩ := g
  obtain ⟨m, hm⟩ : ∃ m, m = y.n * 2 ^ (y.e - x.e).toNat := ⟨_, rfl⟩
  have hb : (blen m : Int) + x.e ≤ K := by
    have := blen_shl y.n (y.e - x.e).toNat
    rw [← hm] at this; omega
  have ha := blen_add x.n m
  unfold plus0
  rw [← hm]
  split
  · exact ⟨h1, show (blen (x.n + m) : Int) + x.e ≤ ((K + 1 : Nat) : Int) by omega⟩
  · split
    · have := blen_mono (Nat.sub_le x.n m)
      exact ⟨h1, show (blen (x.n - m) : Int) + x.e ≤ ((K + 1 : Nat) : Int) by omega⟩
    · have := blen_mono (Nat.sub_le m x.n)
      exact ⟨h1, show (blen (m - x.n) : Int) + x.e ≤ ((K + 1 : Nat) : Int) by omega⟩
theorem ok_plus {x y : Nu} {K : Nat} (h : x.ok K) (g : y.ok K) : (plus x y).ok (K + 1) := by
  unfold plus
  split
  · exact ok_mono g (by omega)
  · split
    · exact ok_mono h (by omega)
    · split
      · exact ok_plus0 g h (by omega)
      · exact ok_plus0 h g (by omega)
theorem ok_less {x y : Nu} {K : Nat} (h : x.ok K) (g : y.ok K) : (less x y).ok (K + 1) := ok_plus h (ok_minus g)

theorem sg_not' (s : Bool) (n : Nat) : sg (!s) n = - sg s n := by cases s <;> simp [sg]
theorem val_minus (x : Nu) : x.minus.val = - x.val := by
  simp only [val, minus, sg_not', Int.neg_mul]
theorem val_scaled {x : Nu} (h : 0 ≤ x.e) (k : Nat) : (x.scaled k).val = x.val * 2 ^ k := by
  simp only [val, scaled]
  rw [show (x.e + k).toNat = x.e.toNat + k by omega, Int.pow_add, Int.mul_assoc]
theorem sg_times (s t : Bool) (n m : Nat) : sg (s != t) (n * m) = sg s n * sg t m := by
  cases s <;> cases t <;> simp [sg, Int.neg_mul, Int.mul_neg]
theorem val_times {x y : Nu} (h : 0 ≤ x.e) (g : 0 ≤ y.e) : (x.times y).val = x.val * y.val := by
  simp only [val, times]
  rw [sg_times, show (x.e + y.e).toNat = x.e.toNat + y.e.toNat by omega, Int.pow_add, Int.mul_assoc, Int.mul_assoc]
  congr 1
  rw [Int.mul_left_comm]
theorem val_plus0 {x y : Nu} (h : 0 ≤ x.e) (he : x.e ≤ y.e) : (plus0 x y).val = x.val + y.val := by
  obtain ⟨m, hm⟩ : ∃ m, m = y.n * 2 ^ (y.e - x.e).toNat := ⟨_, rfl⟩
  have hy : y.val = sg y.s m * 2 ^ x.e.toNat := by
    have e1 : (2 : Int) ^ y.e.toNat = 2 ^ (y.e - x.e).toNat * 2 ^ x.e.toNat := by rw [← Int.pow_add]; congr 1; omega
    simp only [val]
    rw [e1, ← Int.mul_assoc]
    congr 1
    rw [hm]
    cases y.s <;> simp [sg, Int.neg_mul]
  rw [hy]
  unfold plus0
  rw [← hm]
  split
  · rename_i hs
    simp only [val, ← hs]
    rw [← Int.add_mul]
    congr 1
    cases x.s <;> simp [sg] <;> omega
  · rename_i hs
    split
    · simp only [val]
      rw [← Int.add_mul]
      congr 1
      revert hs
      cases x.s <;> cases y.s <;> simp [sg] <;> omega
    · simp only [val]
      rw [← Int.add_mul]
      congr 1
      revert hs
      cases x.s <;> cases y.s <;> simp [sg] <;> omega
theorem sg_zero (s : Bool) : sg s 0 = 0 := by cases s <;> simp [sg]
theorem val_zero {x : Nu} (h : x.n = 0) : x.val = 0 := by simp only [val, h, sg_zero, Int.zero_mul]
theorem val_plus {x y : Nu} (h : 0 ≤ x.e) (g : 0 ≤ y.e) : (plus x y).val = x.val + y.val := by
  unfold plus
  split
  · rename_i q; rw [val_zero q, Int.zero_add]
  · split
    · rename_i q; rw [val_zero q, Int.add_zero]
    · split
      · rw [val_plus0 g (by omega), Int.add_comm]
      · rw [val_plus0 h (by omega)]
theorem val_less {x y : Nu} (h : 0 ≤ x.e) (g : 0 ≤ y.e) : (less x y).val = x.val - y.val := by
  unfold less
  rw [val_plus h (show 0 ≤ y.minus.e from g), val_minus]; omega
theorem sign_val (x : Nu) : Int.sign (sg x.s x.n) = Int.sign x.val := by
  have hp : (0 : Int) < 2 ^ x.e.toNat := Int.pow_pos (by decide)
  simp only [val]
  rw [Int.sign_mul, Int.sign_eq_one_of_pos hp, Int.mul_one]
theorem abs_val (x : Nu) : x.val.natAbs = x.n * 2 ^ x.e.toNat := by
  simp only [val]
  rw [Int.natAbs_mul, sg_abs, Int.natAbs_pow]; rfl
theorem top_lt {x y : Nu} (hx : 0 ≤ x.e) (hy : 0 ≤ y.e) (h1 : y.n ≠ 0) (h : (blen x.n : Int) + x.e < blen y.n + y.e) : x.val.natAbs < y.val.natAbs := by
  rw [abs_val, abs_val]
  have a := blen_lt (x.n * 2 ^ x.e.toNat)
  have b := blen_ge (a := y.n * 2 ^ y.e.toNat) (by have := Nat.two_pow_pos y.e.toNat; exact Nat.mul_ne_zero h1 (by omega))
  rw [blen_shl' h1] at b
  have c := blen_shl x.n x.e.toNat
  have h0 := blen_pos h1
  exact Nat.lt_of_lt_of_le a (Nat.le_trans (Nat.pow_le_pow_right (n := 2) (by decide) (by omega)) b)
end Nu
end Go.Proofs

/-
  The reference's exact numbers: Zero, Sign, Top, Whole, Int, Minus, Scaled, Times, Plus, Less, Compare, TellInt.
-/
namespace Go.Proofs
open Go Go.Abs Go.Nums
attribute [local irreducible] thenA blockA awp aw Stp EndF EndP EndN EndG aOps
set_option linter.unusedSimpArgs false
set_option maxHeartbeats 4000000

abbrev nu (x : Nu) : AVal := .agg [.sc (.bool x.s), .ints .u64 (U (digs B x.n)), .sc (.int .i64 x.e)]
abbrev np (x : Nu) : AVal := .c (.pim [.sc (.bool x.s), .ints .u64 (U (digs B x.n)), .sc (.int .i64 x.e)])

theorem c_numzero1 (x : Nu) (hl : (digs B x.n).length < 2 ^ 42) (h : x.n = 0) : AFun Try.prog 56 [nu x] (bvl true) := by
  refine afun (mu := muF) Try.func56 rfl (by decide) rfl (by decide) (Nat.le_of_ble_eq_true rfl) (by simp [nm0, AVal.at, AVal.at1, Cell.at]) (by simp [nm0, AVal.at, AVal.at1, Cell.at]) fun S hS => ?_
  repeat refine gN ?_
  ((first | refine zw1 ?_ | refine zw2 ?_ | refine zw3 ?_); refine s_call (c_natbits x.n hl) ?_)
  repeat refine gN ?_
  ((first | refine zw1 ?_ | refine zw2 ?_ | refine zw3 ?_); refine s_cmp (fun h2 => ?_) (fun h2 => ?_))
  · repeat refine gN ?_
    (refine endF ttOk (.inr rfl) hS (by exact rfl) ?_ (fl' := [(2, bvl true)]) (by exact rfl) (by exact rfl) (by exact rfl); (repeat' (first | refine fF ?_ ?_ | refine fS ?_ ?_ | exact True.intro); all_goals (try (first | exact kv | (refine kW (ov_of lks) rfl ?_ ?_)))))
  · exact absurd (by rw [h, blen0]; rfl) h2
theorem c_numzero2 (x : Nu) (hl : (digs B x.n).length < 2 ^ 42) (h : x.n ≠ 0) : AFun Try.prog 56 [nu x] (bvl false) := by
  refine afun (mu := muF) Try.func56 rfl (by decide) rfl (by decide) (Nat.le_of_ble_eq_true rfl) (by simp [nm0, AVal.at, AVal.at1, Cell.at]) (by simp [nm0, AVal.at, AVal.at1, Cell.at]) fun S hS => ?_
  repeat refine gN ?_
  ((first | refine zw1 ?_ | refine zw2 ?_ | refine zw3 ?_); refine s_call (c_natbits x.n hl) ?_)
  repeat refine gN ?_
  have := blen_pos h
  ((first | refine zw1 ?_ | refine zw2 ?_ | refine zw3 ?_); refine s_cmp (fun h2 => ?_) (fun h2 => ?_))
  · omega
  · repeat refine gN ?_
    (refine endF ttOk (.inr rfl) hS (by exact rfl) ?_ (fl' := [(2, bvl false)]) (by exact rfl) (by exact rfl) (by exact rfl); (repeat' (first | refine fF ?_ ?_ | refine fS ?_ ?_ | exact True.intro); all_goals (try (first | exact kv | (refine kW (ov_of lks) rfl ?_ ?_)))))

theorem c_numsign (x : Nu) (hl : (digs B x.n).length < 2 ^ 42) : AFun Try.prog 54 [nu x] (ivl .i64 (Int.sign x.val)) := by
  rw [← Nu.sign_val]
  by_cases h : x.n = 0
  · refine afun (mu := muF) Try.func54 rfl (by decide) rfl (by decide) (Nat.le_of_ble_eq_true rfl) (by simp [nm0, AVal.at, AVal.at1, Cell.at]) (by simp [nm0, AVal.at, AVal.at1, Cell.at]) fun S hS => ?_
    repeat refine gN ?_
    ((first | refine zw1 ?_ | refine zw2 ?_ | refine zw3 ?_); refine s_call (c_numzero1 x hl h) ?_)
    repeat refine gN ?_
    (refine endF ttOk (.inr rfl) hS (by exact rfl) ?_ (fl' := [(2, ivl .i64 (Int.sign (sg x.s x.n)))]) (by exact rfl) (by exact rfl) (by exact rfl); (repeat' (first | refine fF ?_ ?_ | refine fS ?_ ?_ | exact True.intro); all_goals (try (first | exact kv | (refine kW (ov_of lks) rfl ?_ ?_)))))
    exact kN (by rw [h, Nu.sg_zero]; rfl)
  · refine afun (mu := muF) Try.func54 rfl (by decide) rfl (by decide) (Nat.le_of_ble_eq_true rfl) (by simp [nm0, AVal.at, AVal.at1, Cell.at]) (by simp [nm0, AVal.at, AVal.at1, Cell.at]) fun S hS => ?_
    repeat refine gN ?_
    ((first | refine zw1 ?_ | refine zw2 ?_ | refine zw3 ?_); refine s_call (c_numzero2 x hl h) ?_)
    repeat refine gN ?_
    refine awp_if (by exact rfl) (fun g => ?_) (fun g => ?_)
    · repeat refine gN ?_
      (refine endF ttOk (.inr rfl) hS (by exact rfl) ?_ (fl' := [(2, ivl .i64 (Int.sign (sg x.s x.n)))]) (by exact rfl) (by exact rfl) (by exact rfl); (repeat' (first | refine fF ?_ ?_ | refine fS ?_ ?_ | exact True.intro); all_goals (try (first | exact kv | (refine kW (ov_of lks) rfl ?_ ?_)))))
      exact kN (by simp only [sg, g, if_true]; rw [Int.sign_eq_neg_one_of_neg (by omega)])
    · repeat refine gN ?_
      (refine endF ttOk (.inr rfl) hS (by exact rfl) ?_ (fl' := [(2, ivl .i64 (Int.sign (sg x.s x.n)))]) (by exact rfl) (by exact rfl) (by exact rfl); (repeat' (first | refine fF ?_ ?_ | refine fS ?_ ?_ | exact True.intro); all_goals (try (first | exact kv | (refine kW (ov_of lks) rfl ?_ ?_)))))
      exact kN (by simp only [sg, g, if_false, Bool.false_eq_true]; rw [Int.sign_eq_one_of_pos (by omega)])

theorem c_numtop (x : Nu) (hl : (digs B x.n).length < 2 ^ 42) (hb : blen x.n < 2 ^ 50) (he : -1125899906842624 ≤ x.e ∧ x.e ≤ 1125899906842624) : AFun Try.prog 55 [nu x] (ivl .i64 (x.e + blen x.n)) := by
  refine afun (mu := muF) Try.func55 rfl (by decide) rfl (by decide) (Nat.le_of_ble_eq_true rfl) (by simp [nm0, AVal.at, AVal.at1, Cell.at]) (by simp [nm0, AVal.at, AVal.at1, Cell.at]) fun S hS => ?_
  repeat refine gN ?_
  ((first | refine zw1 ?_ | refine zw2 ?_ | refine zw3 ?_); refine s_call (c_natbits x.n hl) ?_)
  repeat refine gN ?_
  (refine endF ttOk (.inr rfl) hS (by exact rfl) ?_ (fl' := [(2, ivl .i64 (x.e + blen x.n))]) (by exact rfl) (by exact rfl) (by exact rfl); (repeat' (first | refine fF ?_ ?_ | refine fS ?_ ?_ | exact True.intro); all_goals (try (first | exact kv | (refine kW (ov_of lks) rfl ?_ ?_)))))

theorem c_numint (s : Bool) (l : List Nat) (hr : rng B l) (hl : l.length < 2 ^ 42) : AFun Try.prog 24 [wi s l] (nu ⟨s, val B l, 0⟩) := by
  refine afun (mu := muF) Try.func24 rfl (by decide) rfl (by decide) (Nat.le_of_ble_eq_true rfl) (by simp [nm0, AVal.at, AVal.at1, Cell.at]) (by simp [nm0, AVal.at, AVal.at1, Cell.at]) fun S hS => ?_
  repeat refine gN ?_
  ((first | refine zw1 ?_ | refine zw2 ?_ | refine zw3 ?_); refine s_call (c_nattrim l hr hl) ?_)
  repeat refine gN ?_
  (refine endF ttOk (.inr rfl) hS (by exact rfl) ?_ (fl' := [(2, np ⟨s, val B l, 0⟩)]) (by exact rfl) (by exact rfl) (by exact rfl); (repeat' (first | refine fF ?_ ?_ | refine fS ?_ ?_ | exact True.intro); all_goals (try (first | exact kv | (refine kW (ov_of lks) rfl ?_ ?_)))))

theorem c_minus (x : Nu) : AFun Try.prog 52 [nu x] (nu x.minus) := by
  refine afun (mu := muF) Try.func52 rfl (by decide) rfl (by decide) (Nat.le_of_ble_eq_true rfl) (by simp [nm0, AVal.at, AVal.at1, Cell.at]) (by simp [nm0, AVal.at, AVal.at1, Cell.at]) fun S hS => ?_
  repeat refine gN ?_
  (refine endF ttOk (.inr rfl) hS (by exact rfl) ?_ (fl' := [(2, np x.minus)]) (by exact rfl) (by exact rfl) (by exact rfl); (repeat' (first | refine fF ?_ ?_ | refine fS ?_ ?_ | exact True.intro); all_goals (try (first | exact kv | (refine kW (ov_of lks) rfl ?_ ?_)))))

theorem c_scaled (x : Nu) (k : Int) (h : -9223372036854775808 ≤ x.e + k ∧ x.e + k < 9223372036854775808) : AFun Try.prog 22 [nu x, ivl .i64 k] (nu (x.scaled k)) := by
  refine afun (mu := muF) Try.func22 rfl (by decide) rfl (by decide) (Nat.le_of_ble_eq_true rfl) (by simp [nm0, AVal.at, AVal.at1, Cell.at]) (by simp [nm0, AVal.at, AVal.at1, Cell.at]) fun S hS => ?_
  repeat refine gN ?_
  (refine endF ttOk (.inr rfl) hS (by exact rfl) ?_ (fl' := [(4, np (x.scaled k))]) (by exact rfl) (by exact rfl) (by exact rfl); (repeat' (first | refine fF ?_ ?_ | refine fS ?_ ?_ | exact True.intro); all_goals (try (first | exact kv | (refine kW (ov_of lks) rfl ?_ ?_)))))

theorem c_numwhole1 (n : Nat) (h : n < 2 ^ 63) : AFun Try.prog 23 [ivl .i64 n] (nu ⟨false, n, 0⟩) := by
  refine afun (mu := muF) Try.func23 rfl (by decide) rfl (by decide) (Nat.le_of_ble_eq_true rfl) (by simp [nm0, AVal.at, AVal.at1, Cell.at]) (by simp [nm0, AVal.at, AVal.at1, Cell.at]) fun S hS => ?_
  repeat refine gN ?_
  ((first | refine zw1 ?_ | refine zw2 ?_ | refine zw3 ?_); refine s_cmp (fun h1 => ?_) (fun h1 => ?_))
  · omega
  repeat refine gN ?_
  ((first | refine zw1 ?_ | refine zw2 ?_ | refine zw3 ?_); refine s_cmp (fun h2 => ?_) (fun h2 => ?_))
  · omega
  repeat refine gN ?_
  ((first | refine zw1 ?_ | refine zw2 ?_ | refine zw3 ?_); refine s_call (c_natof n (show n < 18446744073709551616 by omega)) ?_)
  repeat refine gN ?_
  (refine endF ttOk (.inr rfl) hS (by exact rfl) ?_ (fl' := [(2, np ⟨false, n, 0⟩)]) (by exact rfl) (by exact rfl) (by exact rfl); (repeat' (first | refine fF ?_ ?_ | refine fS ?_ ?_ | exact True.intro); all_goals (try (first | exact kv | (refine kW (ov_of lks) rfl ?_ ?_)))))

theorem c_numwhole2 (n : Nat) (h0 : 0 < n) (h : n ≤ 2 ^ 63) : AFun Try.prog 23 [ivl .i64 (-(n : Int))] (nu ⟨true, n, 0⟩) := by
  refine afun (mu := muF) Try.func23 rfl (by decide) rfl (by decide) (Nat.le_of_ble_eq_true rfl) (by simp [nm0, AVal.at, AVal.at1, Cell.at]) (by simp [nm0, AVal.at, AVal.at1, Cell.at]) fun S hS => ?_
  repeat refine gN ?_
  ((first | refine zw1 ?_ | refine zw2 ?_ | refine zw3 ?_); refine stp_pure ttOk false (by exact rfl) (by first | exact True.intro | omega | (simp only [and_true, List.length_map, List.length_replicate, List.length_set, List.length_append, List.length_cons, List.length_nil, List.length_take, List.length_drop] at *; omega)) ?_)
  repeat refine gN ?_
  have e1 : IntKind.u64.wrap (-(n : Int)) = ((18446744073709551616 - n : Nat) : Int) := by rw [wrap_u64i]; omega
  rw [e1]
  ((first | refine zw1 ?_ | refine zw2 ?_ | refine zw3 ?_); refine s_cmp (fun h1 => ?_) (fun h1 => ?_))
  · repeat refine gN ?_
    ((first | refine zw1 ?_ | refine zw2 ?_ | refine zw3 ?_); refine stp_pure ttOk false (by exact rfl) (by first | exact True.intro | omega | (simp only [and_true, List.length_map, List.length_replicate, List.length_set, List.length_append, List.length_cons, List.length_nil, List.length_take, List.length_drop] at *; omega)) ?_)
    have e2 : IntKind.u64.wrap (0 - ((18446744073709551616 - n : Nat) : Int)) = (n : Int) := by rw [wrap_u64i]; omega
    rw [e2]
    repeat refine gN ?_
    ((first | refine zw1 ?_ | refine zw2 ?_ | refine zw3 ?_); refine s_cmp (fun h2 => ?_) (fun h2 => ?_))
    · repeat refine gN ?_
      ((first | refine zw1 ?_ | refine zw2 ?_ | refine zw3 ?_); refine s_call (c_natof n (show n < 18446744073709551616 by omega)) ?_)
      repeat refine gN ?_
      (refine endF ttOk (.inr rfl) hS (by exact rfl) ?_ (fl' := [(2, np ⟨true, n, 0⟩)]) (by exact rfl) (by exact rfl) (by exact rfl); (repeat' (first | refine fF ?_ ?_ | refine fS ?_ ?_ | exact True.intro); all_goals (try (first | exact kv | (refine kW (ov_of lks) rfl ?_ ?_)))))
    · omega
  · omega

theorem ok_len {x : Nu} {K : Nat} (h : x.ok K) (hK : K ≤ 2 ^ 36) : (digs B x.n).length ≤ 2 ^ 36 ∧ blen x.n ≤ 2 ^ 36 ∧ 0 ≤ x.e ∧ x.e ≤ 68719476736 := by
  obtain ⟨h1, h2⟩ := h
  have := len_blen' x.n
  omega

theorem c_numtimes (x y : Nu) (K L : Nat) (hx : x.ok K) (hy : y.ok L) (hK : K ≤ 2 ^ 36) (hL : L ≤ 2 ^ 36) : AFun Try.prog 26 [nu x, nu y] (nu (x.times y)) := by
  obtain ⟨a1, a2, a3, a4⟩ := ok_len hx hK
  obtain ⟨b1, b2, b3, b4⟩ := ok_len hy hL
  refine afun (mu := muF) Try.func26 rfl (by decide) rfl (by decide) (Nat.le_of_ble_eq_true rfl) (by simp [nm0, AVal.at, AVal.at1, Cell.at]) (by simp [nm0, AVal.at, AVal.at1, Cell.at]) fun S hS => ?_
  repeat refine gN ?_
  ((first | refine zw1 ?_ | refine zw2 ?_ | refine zw3 ?_); refine s_call (c_natmul x.n y.n (by omega) (by omega)) ?_)
  repeat refine gN ?_
  (refine endF ttOk (.inr rfl) hS (by exact rfl) ?_ (fl' := [(4, np (x.times y))]) (by exact rfl) (by exact rfl) (by exact rfl); (repeat' (first | refine fF ?_ ?_ | refine fS ?_ ?_ | exact True.intro); all_goals (try (first | exact kv | (refine kW (ov_of lks) rfl ?_ ?_)))))

theorem shl_len {n k : Nat} (hn : blen n + k ≤ 2 ^ 37) : (digs B (n * 2 ^ k)).length ≤ 2 ^ 37 - 2 ^ 36 := by
  have h1 := len_blen (n * 2 ^ k)
  have h2 := blen_shl n k
  omega

theorem c_plus0 (x y : Nu) (K : Nat) (hx : x.ok K) (hy : y.ok K) (hK : K ≤ 2 ^ 36) (he : x.n = 0 ∨ y.n = 0 ∨ x.e ≤ y.e) : AFun Try.prog 28 [nu x, nu y] (nu (x.plus y)) := by
  obtain ⟨a1, a2, a3, a4⟩ := ok_len hx hK
  obtain ⟨b1, b2, b3, b4⟩ := ok_len hy hK
  by_cases g1 : x.n = 0
  · rw [show x.plus y = y by rw [Nu.plus, if_pos g1]]
    refine afun (mu := muF) Try.func28 rfl (by decide) rfl (by decide) (Nat.le_of_ble_eq_true rfl) (by simp [nm0, AVal.at, AVal.at1, Cell.at]) (by simp [nm0, AVal.at, AVal.at1, Cell.at]) fun S hS => ?_
    repeat refine gN ?_
    ((first | refine zw1 ?_ | refine zw2 ?_ | refine zw3 ?_); refine s_call (c_numzero1 x (by omega) g1) ?_)
    repeat refine gN ?_
    (refine endF ttOk (.inr rfl) hS (by exact rfl) ?_ (fl' := [(4, np y)]) (by exact rfl) (by exact rfl) (by exact rfl); (repeat' (first | refine fF ?_ ?_ | refine fS ?_ ?_ | exact True.intro); all_goals (try (first | exact kv | (refine kW (ov_of lks) rfl ?_ ?_)))))
  by_cases g2 : y.n = 0
  · rw [show x.plus y = x by rw [Nu.plus, if_neg g1, if_pos g2]]
    refine afun (mu := muF) Try.func28 rfl (by decide) rfl (by decide) (Nat.le_of_ble_eq_true rfl) (by simp [nm0, AVal.at, AVal.at1, Cell.at]) (by simp [nm0, AVal.at, AVal.at1, Cell.at]) fun S hS => ?_
    repeat refine gN ?_
    ((first | refine zw1 ?_ | refine zw2 ?_ | refine zw3 ?_); refine s_call (c_numzero2 x (by omega) g1) ?_)
    repeat refine gN ?_
    ((first | refine zw1 ?_ | refine zw2 ?_ | refine zw3 ?_); refine s_call (c_numzero1 y (by omega) g2) ?_)
    repeat refine gN ?_
    (refine endF ttOk (.inr rfl) hS (by exact rfl) ?_ (fl' := [(4, np x)]) (by exact rfl) (by exact rfl) (by exact rfl); (repeat' (first | refine fF ?_ ?_ | refine fS ?_ ?_ | exact True.intro); all_goals (try (first | exact kv | (refine kW (ov_of lks) rfl ?_ ?_)))))
  have g3 : x.e ≤ y.e := by omega
  rw [show x.plus y = x.plus0 y by rw [Nu.plus, if_neg g1, if_neg g2, if_neg (by omega)]]
  obtain ⟨k, hk⟩ : ∃ k : Nat, k = (y.e - x.e).toNat := ⟨_, rfl⟩
  have hk' : y.e - x.e = (k : Int) := by omega
  have hs := shl_len (n := y.n) (k := k) (by have := hy.2; omega)
  have e : Nu.plus0 x y = if x.s = y.s then ⟨x.s, x.n + y.n * 2 ^ k, x.e⟩ else if y.n * 2 ^ k ≤ x.n then ⟨x.s, x.n - y.n * 2 ^ k, x.e⟩ else ⟨y.s, y.n * 2 ^ k - x.n, x.e⟩ := by rw [Nu.plus0, hk]
  rw [e]
  obtain ⟨m, hm⟩ : ∃ m, m = y.n * 2 ^ k := ⟨_, rfl⟩
  refine afun (mu := muF) Try.func28 rfl (by decide) rfl (by decide) (Nat.le_of_ble_eq_true rfl) (by simp [nm0, AVal.at, AVal.at1, Cell.at]) (by simp [nm0, AVal.at, AVal.at1, Cell.at]) fun S hS => ?_
  repeat refine gN ?_
  ((first | refine zw1 ?_ | refine zw2 ?_ | refine zw3 ?_); refine s_call (c_numzero2 x (by omega) g1) ?_)
  repeat refine gN ?_
  ((first | refine zw1 ?_ | refine zw2 ?_ | refine zw3 ?_); refine s_call (c_numzero2 y (by omega) g2) ?_)
  repeat refine gN ?_
  ((first | refine zw1 ?_ | refine zw2 ?_ | refine zw3 ?_); refine s_cmp (fun g4 => ?_) (fun g4 => ?_))
  · omega
  repeat refine gN ?_
  rw [hk']
  ((first | refine zw1 ?_ | refine zw2 ?_ | refine zw3 ?_); refine s_call (c_natup y.n k (by omega) (by omega)) ?_)
  rw [← hm] at hs ⊢
  repeat refine gN ?_
  refine awp_if (by exact rfl) (fun g5 => ?_) (fun g5 => ?_)
  · rw [if_pos (by simpa using g5)]
    repeat refine gN ?_
    ((first | refine zw1 ?_ | refine zw2 ?_ | refine zw3 ?_); refine s_call (c_natadd x.n m (by omega) (by omega)) ?_)
    repeat refine gN ?_
    (refine endF ttOk (.inr rfl) hS (by exact rfl) ?_ (fl' := [(4, np ⟨x.s, x.n + m, x.e⟩)]) (by exact rfl) (by exact rfl) (by exact rfl); (repeat' (first | refine fF ?_ ?_ | refine fS ?_ ?_ | exact True.intro); all_goals (try (first | exact kv | (refine kW (ov_of lks) rfl ?_ ?_)))))
  · rw [if_neg (by simpa using g5)]
    repeat refine gN ?_
    ((first | refine zw1 ?_ | refine zw2 ?_ | refine zw3 ?_); refine s_call (c_natcmp x.n m (by omega) (by omega)) ?_)
    repeat refine gN ?_
    ((first | refine zw1 ?_ | refine zw2 ?_ | refine zw3 ?_); refine s_cmp (fun g6 => ?_) (fun g6 => ?_))
    · have g7 : m ≤ x.n := by unfold cmpN at g6; split at g6 <;> omega
      rw [if_pos g7]
      repeat refine gN ?_
      ((first | refine zw1 ?_ | refine zw2 ?_ | refine zw3 ?_); refine s_call (c_natsub x.n m g7 (by omega)) ?_)
      repeat refine gN ?_
      (refine endF ttOk (.inr rfl) hS (by exact rfl) ?_ (fl' := [(4, np ⟨x.s, x.n - m, x.e⟩)]) (by exact rfl) (by exact rfl) (by exact rfl); (repeat' (first | refine fF ?_ ?_ | refine fS ?_ ?_ | exact True.intro); all_goals (try (first | exact kv | (refine kW (ov_of lks) rfl ?_ ?_)))))
    · have g7 : ¬ m ≤ x.n := by
        intro q; apply g6; unfold cmpN
        split
        · omega
        · split <;> omega
      rw [if_neg g7]
      repeat refine gN ?_
      ((first | refine zw1 ?_ | refine zw2 ?_ | refine zw3 ?_); refine s_call (c_natsub m x.n (by omega) (by omega)) ?_)
      repeat refine gN ?_
      (refine endF ttOk (.inr rfl) hS (by exact rfl) ?_ (fl' := [(4, np ⟨y.s, m - x.n, x.e⟩)]) (by exact rfl) (by exact rfl) (by exact rfl); (repeat' (first | refine fF ?_ ?_ | refine fS ?_ ?_ | exact True.intro); all_goals (try (first | exact kv | (refine kW (ov_of lks) rfl ?_ ?_)))))

theorem c_numplus (x y : Nu) (K : Nat) (hx : x.ok K) (hy : y.ok K) (hK : K ≤ 2 ^ 36) : AFun Try.prog 28 [nu x, nu y] (nu (x.plus y)) := by
  by_cases g : x.n = 0 ∨ y.n = 0 ∨ x.e ≤ y.e
  · exact c_plus0 x y K hx hy hK g
  obtain ⟨a1, a2, a3, a4⟩ := ok_len hx hK
  obtain ⟨b1, b2, b3, b4⟩ := ok_len hy hK
  have g1 : x.n ≠ 0 := fun q => g (.inl q)
  have g2 : y.n ≠ 0 := fun q => g (.inr (.inl q))
  have g3 : y.e < x.e := by omega
  rw [show x.plus y = y.plus x by rw [Nu.plus, Nu.plus, if_neg g1, if_neg g2, if_neg g2, if_neg g1, if_pos g3, if_neg (by omega)]]
  refine afun (mu := muF) Try.func28 rfl (by decide) rfl (by decide) (Nat.le_of_ble_eq_true rfl) (by simp [nm0, AVal.at, AVal.at1, Cell.at]) (by simp [nm0, AVal.at, AVal.at1, Cell.at]) fun S hS => ?_
  repeat refine gN ?_
  ((first | refine zw1 ?_ | refine zw2 ?_ | refine zw3 ?_); refine s_call (c_numzero2 x (by omega) g1) ?_)
  repeat refine gN ?_
  ((first | refine zw1 ?_ | refine zw2 ?_ | refine zw3 ?_); refine s_call (c_numzero2 y (by omega) g2) ?_)
  repeat refine gN ?_
  ((first | refine zw1 ?_ | refine zw2 ?_ | refine zw3 ?_); refine s_cmp (fun g4 => ?_) (fun g4 => ?_))
  · repeat refine gN ?_
    ((first | refine zw1 ?_ | refine zw2 ?_ | refine zw3 ?_); refine s_call (c_plus0 y x K hy hx hK (.inr (.inr (by omega)))) ?_)
    repeat refine gN ?_
    (refine endF ttOk (.inr rfl) hS (by exact rfl) ?_ (fl' := [(4, np (y.plus x))]) (by exact rfl) (by exact rfl) (by exact rfl); (repeat' (first | refine fF ?_ ?_ | refine fS ?_ ?_ | exact True.intro); all_goals (try (first | exact kv | (refine kW (ov_of lks) rfl ?_ ?_)))))
  · omega

theorem c_numless (x y : Nu) (K : Nat) (hx : x.ok K) (hy : y.ok K) (hK : K ≤ 2 ^ 36) : AFun Try.prog 25 [nu x, nu y] (nu (x.less y)) := by
  refine afun (mu := muF) Try.func25 rfl (by decide) rfl (by decide) (Nat.le_of_ble_eq_true rfl) (by simp [nm0, AVal.at, AVal.at1, Cell.at]) (by simp [nm0, AVal.at, AVal.at1, Cell.at]) fun S hS => ?_
  repeat refine gN ?_
  ((first | refine zw1 ?_ | refine zw2 ?_ | refine zw3 ?_); refine s_call (c_minus y) ?_)
  repeat refine gN ?_
  ((first | refine zw1 ?_ | refine zw2 ?_ | refine zw3 ?_); refine s_call (c_numplus x y.minus K hx (Nu.ok_minus hy) hK) ?_)
  repeat refine gN ?_
  (refine endF ttOk (.inr rfl) hS (by exact rfl) ?_ (fl' := [(4, np (x.plus y.minus))]) (by exact rfl) (by exact rfl) (by exact rfl); (repeat' (first | refine fF ?_ ?_ | refine fS ?_ ?_ | exact True.intro); all_goals (try (first | exact kv | (refine kW (ov_of lks) rfl ?_ ?_)))))

theorem sign_cases (X : Int) : (X < 0 ∧ X.sign = -1) ∨ (X = 0 ∧ X.sign = 0) ∨ (0 < X ∧ X.sign = 1) := by
  rcases Int.lt_trichotomy X 0 with h | h | h
  · exact .inl ⟨h, Int.sign_eq_neg_one_of_neg h⟩
  · subst h; exact .inr (.inl ⟨rfl, rfl⟩)
  · exact .inr (.inr ⟨h, Int.sign_eq_one_of_pos h⟩)

theorem c_numcompare (x y : Nu) (K : Nat) (hx : x.ok K) (hy : y.ok K) (hK : K < 2 ^ 36) : AFun Try.prog 27 [nu x, nu y] (ivl .i64 (Int.sign (x.val - y.val))) := by
  obtain ⟨a1, a2, a3, a4⟩ := ok_len hx (by omega)
  obtain ⟨b1, b2, b3, b4⟩ := ok_len hy (by omega)
  obtain ⟨d1, d2, d3, d4⟩ := ok_len (Nu.ok_less hx hy) (by omega)
  have sx := sign_cases x.val
  have sy := sign_cases y.val
  have sd := sign_cases (x.val - y.val)
  have tx : (x.n ≠ 0) → (blen y.n : Int) + y.e < blen x.n + x.e → y.val.natAbs < x.val.natAbs := Nu.top_lt b3 a3
  have ty : (y.n ≠ 0) → (blen x.n : Int) + x.e < blen y.n + y.e → x.val.natAbs < y.val.natAbs := Nu.top_lt a3 b3
  have zx : x.n = 0 → x.val = 0 := Nu.val_zero
  have zy : y.n = 0 → y.val = 0 := Nu.val_zero
  have hl := Nu.val_less (x := x) (y := y) a3 b3
  refine afun (mu := muF) Try.func27 rfl (by decide) rfl (by decide) (Nat.le_of_ble_eq_true rfl) (by simp [nm0, AVal.at, AVal.at1, Cell.at]) (by simp [nm0, AVal.at, AVal.at1, Cell.at]) fun S hS => ?_
  repeat refine gN ?_
  ((first | refine zw1 ?_ | refine zw2 ?_ | refine zw3 ?_); refine s_call (c_numsign x (by omega)) ?_)
  repeat refine gN ?_
  ((first | refine zw1 ?_ | refine zw2 ?_ | refine zw3 ?_); refine s_call (c_numsign y (by omega)) ?_)
  repeat refine gN ?_
  ((first | refine zw1 ?_ | refine zw2 ?_ | refine zw3 ?_); refine s_cmp (fun g1 => ?_) (fun g1 => ?_))
  · repeat refine gN ?_
    (refine endF ttOk (.inr rfl) hS (by exact rfl) ?_ (fl' := [(4, ivl .i64 (Int.sign (x.val - y.val)))]) (by exact rfl) (by exact rfl) (by exact rfl); (repeat' (first | refine fF ?_ ?_ | refine fS ?_ ?_ | exact True.intro); all_goals (try (first | exact kv | (refine kW (ov_of lks) rfl ?_ ?_)))))
  repeat refine gN ?_
  ((first | refine zw1 ?_ | refine zw2 ?_ | refine zw3 ?_); refine s_cmp (fun g2 => ?_) (fun g2 => ?_))
  · repeat refine gN ?_
    (refine endF ttOk (.inr rfl) hS (by exact rfl) ?_ (fl' := [(4, ivl .i64 (Int.sign (x.val - y.val)))]) (by exact rfl) (by exact rfl) (by exact rfl); (repeat' (first | refine fF ?_ ?_ | refine fS ?_ ?_ | exact True.intro); all_goals (try (first | exact kv | (refine kW (ov_of lks) rfl ?_ ?_)))))
  repeat refine gN ?_
  ((first | refine zw1 ?_ | refine zw2 ?_ | refine zw3 ?_); refine s_cmp (fun g3 => ?_) (fun g3 => ?_))
  · repeat refine gN ?_
    (refine endF ttOk (.inr rfl) hS (by exact rfl) ?_ (fl' := [(4, ivl .i64 (Int.sign (x.val - y.val)))]) (by exact rfl) (by exact rfl) (by exact rfl); (repeat' (first | refine fF ?_ ?_ | refine fS ?_ ?_ | exact True.intro); all_goals (try (first | exact kv | (refine kW (ov_of lks) rfl ?_ ?_)))))
  have n1 : x.n ≠ 0 := fun q => by have := zx q; omega
  have n2 : y.n ≠ 0 := fun q => by have := zy q; omega
  have tx := tx n1
  have ty := ty n2
  repeat refine gN ?_
  ((first | refine zw1 ?_ | refine zw2 ?_ | refine zw3 ?_); refine s_call (c_numtop x (by omega) (by omega) (by omega)) ?_)
  repeat refine gN ?_
  ((first | refine zw1 ?_ | refine zw2 ?_ | refine zw3 ?_); refine s_call (c_numtop y (by omega) (by omega) (by omega)) ?_)
  repeat refine gN ?_
  ((first | refine zw1 ?_ | refine zw2 ?_ | refine zw3 ?_); refine s_cmp (fun g4 => ?_) (fun g4 => ?_))
  · repeat refine gN ?_
    (refine endF ttOk (.inr rfl) hS (by exact rfl) ?_ (fl' := [(4, ivl .i64 (Int.sign (x.val - y.val)))]) (by exact rfl) (by exact rfl) (by exact rfl); (repeat' (first | refine fF ?_ ?_ | refine fS ?_ ?_ | exact True.intro); all_goals (try (first | exact kv | (refine kW (ov_of lks) rfl ?_ ?_)))))
  repeat refine gN ?_
  ((first | refine zw1 ?_ | refine zw2 ?_ | refine zw3 ?_); refine s_call (c_numtop x (by omega) (by omega) (by omega)) ?_)
  repeat refine gN ?_
  ((first | refine zw1 ?_ | refine zw2 ?_ | refine zw3 ?_); refine s_call (c_numtop y (by omega) (by omega) (by omega)) ?_)
  repeat refine gN ?_
  ((first | refine zw1 ?_ | refine zw2 ?_ | refine zw3 ?_); refine s_cmp (fun g5 => ?_) (fun g5 => ?_))
  · repeat refine gN ?_
    (refine endF ttOk (.inr rfl) hS (by exact rfl) ?_ (fl' := [(4, ivl .i64 (Int.sign (x.val - y.val)))]) (by exact rfl) (by exact rfl) (by exact rfl); (repeat' (first | refine fF ?_ ?_ | refine fS ?_ ?_ | exact True.intro); all_goals (try (first | exact kv | (refine kW (ov_of lks) rfl ?_ ?_)))))
  repeat refine gN ?_
  ((first | refine zw1 ?_ | refine zw2 ?_ | refine zw3 ?_); refine s_call (c_numless x y K hx hy (by omega)) ?_)
  repeat refine gN ?_
  ((first | refine zw1 ?_ | refine zw2 ?_ | refine zw3 ?_); refine s_call (c_numsign (x.less y) (by omega)) ?_)
  rw [hl]
  repeat refine gN ?_
  (refine endF ttOk (.inr rfl) hS (by exact rfl) ?_ (fl' := [(4, ivl .i64 (Int.sign (x.val - y.val)))]) (by exact rfl) (by exact rfl) (by exact rfl); (repeat' (first | refine fF ?_ ?_ | refine fS ?_ ?_ | exact True.intro); all_goals (try (first | exact kv | (refine kW (ov_of lks) rfl ?_ ?_)))))

/-- A whole number as a struct. -/
abbrev vz (n : Int) : AVal := wi (decide (n < 0)) (digs B n.natAbs)
abbrev v0 : AVal := .agg [.sc (.bool false), .ints .u64 []]
theorem vz_zero : vz 0 = v0 := by
  show wi (decide ((0 : Int) < 0)) (digs B 0) = v0
  rw [digs_zero]; rfl
theorem sg_lt {s : Bool} {m : Nat} (h : m ≠ 0) : decide (sg s m < 0) = s := by cases s <;> simp [sg] <;> omega
theorem vz_val {x : Nu} (h : x.n ≠ 0) : vz x.val = wi x.s (digs B (x.n * 2 ^ x.e.toNat)) := by
  have e : decide (x.val < 0) = x.s := by
    rw [← sg_lt (s := x.s) h]
    have h1 := Nu.sign_val x
    have h2 := sign_cases x.val
    have h3 := sign_cases (sg x.s x.n)
    rw [decide_eq_decide]; omega
  show wi (decide (x.val < 0)) (digs B x.val.natAbs) = _
  rw [e, Nu.abs_val]

theorem c_tellint1 (x : Nu) (K : Nat) (hx : x.ok K) (hK : K ≤ 2 ^ 36) (hs : x.n = 0 ∨ (blen x.n : Int) + x.e ≤ 262144) : AFun Try.prog 29 [nu x] (.tup [vz x.val, bvl true]) := by
  obtain ⟨a1, a2, a3, a4⟩ := ok_len hx hK
  by_cases h : x.n = 0
  · rw [Nu.val_zero h, vz_zero]
    refine afun (mu := muF) Try.func29 rfl (by decide) rfl (by decide) (Nat.le_of_ble_eq_true rfl) (by simp [nm0, AVal.at, AVal.at1, Cell.at]) (by simp [nm0, AVal.at, AVal.at1, Cell.at]) fun S hS => ?_
    repeat refine gN ?_
    ((first | refine zw1 ?_ | refine zw2 ?_ | refine zw3 ?_); refine s_call (c_numzero1 x (by omega) h) ?_)
    repeat refine gN ?_
    (refine endF ttOk (.inr rfl) hS (by exact rfl) ?_ (fl' := [(2, .c (.pim [.sc (.bool false), .ints .u64 []])), (3, bvl true)]) (by exact rfl) (by exact rfl) (by exact rfl); (repeat' (first | refine fF ?_ ?_ | refine fS ?_ ?_ | exact True.intro); all_goals (try (first | exact kv | (refine kW (ov_of lks) rfl ?_ ?_)))))
  · rw [vz_val h]
    obtain ⟨k, hk⟩ : ∃ k : Nat, x.e = (k : Int) := ⟨x.e.toNat, by omega⟩
    rw [show x.e.toNat = k by omega]
    obtain ⟨s, n, e⟩ := x
    obtain rfl : e = (k : Int) := hk
    have a1' : (digs B n).length ≤ 2 ^ 36 := a1
    have a4' : (k : Int) ≤ 68719476736 := a4
    refine afun (mu := muF) Try.func29 rfl (by decide) rfl (by decide) (Nat.le_of_ble_eq_true rfl) (by simp [nm0, AVal.at, AVal.at1, Cell.at]) (by simp [nm0, AVal.at, AVal.at1, Cell.at]) fun S hS => ?_
    repeat refine gN ?_
    ((first | refine zw1 ?_ | refine zw2 ?_ | refine zw3 ?_); refine s_call (c_numzero2 ⟨s, n, k⟩ (by omega) h) ?_)
    repeat refine gN ?_
    ((first | refine zw1 ?_ | refine zw2 ?_ | refine zw3 ?_); refine s_call (c_numtop ⟨s, n, k⟩ (by omega) (by omega) (by omega)) ?_)
    repeat refine gN ?_
    ((first | refine zw1 ?_ | refine zw2 ?_ | refine zw3 ?_); refine s_cmp (fun g1 => ?_) (fun g1 => ?_))
    · omega
    repeat refine gN ?_
    ((first | refine zw1 ?_ | refine zw2 ?_ | refine zw3 ?_); refine s_call (c_natup n k (by omega) (by omega)) ?_)
    repeat refine gN ?_
    (refine endF ttOk (.inr rfl) hS (by exact rfl) ?_ (fl' := [(2, .c (.pim [.sc (.bool s), .ints .u64 (U (digs B (n * 2 ^ k)))])), (3, bvl true)]) (by exact rfl) (by exact rfl) (by exact rfl); (repeat' (first | refine fF ?_ ?_ | refine fS ?_ ?_ | exact True.intro); all_goals (try (first | exact kv | (refine kW (ov_of lks) rfl ?_ ?_)))))

theorem c_tellint2 (x : Nu) (K : Nat) (hx : x.ok K) (hK : K ≤ 2 ^ 36) (h : x.n ≠ 0) (hs : 262144 < (blen x.n : Int) + x.e) : AFun Try.prog 29 [nu x] (.tup [v0, bvl false]) := by
  obtain ⟨a1, a2, a3, a4⟩ := ok_len hx hK
  refine afun (mu := muF) Try.func29 rfl (by decide) rfl (by decide) (Nat.le_of_ble_eq_true rfl) (by simp [nm0, AVal.at, AVal.at1, Cell.at]) (by simp [nm0, AVal.at, AVal.at1, Cell.at]) fun S hS => ?_
  repeat refine gN ?_
  ((first | refine zw1 ?_ | refine zw2 ?_ | refine zw3 ?_); refine s_call (c_numzero2 x (by omega) h) ?_)
  repeat refine gN ?_
  ((first | refine zw1 ?_ | refine zw2 ?_ | refine zw3 ?_); refine s_call (c_numtop x (by omega) (by omega) (by omega)) ?_)
  repeat refine gN ?_
  ((first | refine zw1 ?_ | refine zw2 ?_ | refine zw3 ?_); refine s_cmp (fun g1 => ?_) (fun g1 => ?_))
  · repeat refine gN ?_
    (refine endF ttOk (.inr rfl) hS (by exact rfl) ?_ (fl' := [(2, .c (.pim [.sc (.bool false), .ints .u64 []])), (3, bvl false)]) (by exact rfl) (by exact rfl) (by exact rfl); (repeat' (first | refine fF ?_ ?_ | refine fS ?_ ?_ | exact True.intro); all_goals (try (first | exact kv | (refine kW (ov_of lks) rfl ?_ ?_)))))
  · omega
end Go.Proofs
